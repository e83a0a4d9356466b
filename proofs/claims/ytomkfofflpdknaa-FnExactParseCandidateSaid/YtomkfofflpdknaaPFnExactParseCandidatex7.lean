-- written for this claim by a program of this session (wip/patch_print.py over the kit's print)
import Derived.Test.YtomkfofflpdknaaPFnExactParseCandidatex0
import Derived.Test.YtomkfofflpdknaaPFnExactParseCandidatex5
import Derived.Test.YtomkfofflpdknaaPFnExactParseCandidatex6
namespace Go.Proofs.Ytomkfofflpdknaa.PFnExactParseCandidate
open Go.RowKit Go.Proofs.YtomkfofflpdknaaW.PrintWords Go.Proofs.YtomkfofflpdknaaW.PrintLast Go.Proofs.YtomkfofflpdknaaW.PrintMore
attribute [local go_sem] max2_int min2_int max_two min_two max_three min_three max_four min_four   -- for this text's walks alone
set_option linter.unusedVariables false
set_option linter.unusedSimpArgs false

/-! ### impl_ParseCandidate: function 49 -/
mutual
def impl_ParseCandidate.l0 : Nat → ByteArray → Int → List (S83) → Option ((List (S83)) × Bool)
  | 0, _, _, _ => none
  | k + 1, x0, x5, x212000 => if x5 < (x0.size : Int) then (if 0 ≤ x5 then (if (bt x0 x5) = 43 then (impl_ParseCandidate.j1 k x0 x5 (bt x0 x5) true x212000) else (if (bt x0 x5) = 45 then (impl_ParseCandidate.j1 k x0 x5 (bt x0 x5) true x212000) else (impl_ParseCandidate.j1 k x0 x5 (bt x0 x5) ((bt x0 x5) == 42) x212000))) else (none)) else (if (x212000.length : Int) = 0 then (some (([] : List (S83)), false)) else ((impl_FormatCandidate.f k x212000).bind fun t212 => (if t212.toList = x0.toList then (some (x212000, true)) else (some (([] : List (S83)), false)))))
def impl_ParseCandidate.j1 : Nat → ByteArray → Int → Int → Bool → List (S83) → Option ((List (S83)) × Bool)
  | 0, _, _, _, _, _ => none
  | k + 1, x0, x5, x6, x30, x212000 => if x30 = true then (impl_ParseCandidate.j2 k x0 (wrap64 (x5 + 1)) x6 x212000) else (impl_ParseCandidate.j2 k x0 x5 x6 x212000)
def impl_ParseCandidate.j2 : Nat → ByteArray → Int → Int → List (S83) → Option ((List (S83)) × Bool)
  | 0, _, _, _, _ => none
  | k + 1, x0, x5, x6, x212000 => if x5 = (x0.size : Int) then (some (([] : List (S83)), false)) else (if 0 ≤ x5 then (if x5 < (x0.size : Int) then (if x6 = 43 then (if x212000.length < 70368744177664 then (impl_ParseCandidate.l0 k x0 (wrap64 (x5 + 1)) (x212000 ++ [(⟨0, bt x0 x5⟩ : S83)])) else (none)) else (if x6 = 45 then (if x212000.length < 70368744177664 then (impl_ParseCandidate.l0 k x0 (wrap64 (x5 + 1)) (x212000 ++ [(⟨bt x0 x5, 0⟩ : S83)])) else (none)) else (if x6 = 42 then ((impl_SwapVoice.f (bt x0 x5)).bind fun bt220 => (if x212000.length < 70368744177664 then (impl_ParseCandidate.l0 k x0 (wrap64 (x5 + 1)) (x212000 ++ [(⟨bt x0 x5, bt220.1⟩ : S83)])) else (none))) else (if x212000.length < 70368744177664 then (impl_ParseCandidate.l0 k x0 (wrap64 (x5 + 1)) (x212000 ++ [(⟨bt x0 x5, bt x0 x5⟩ : S83)])) else (none))))) else (none)) else (none))
end
def impl_ParseCandidate.f (k : Nat) (a0 : ByteArray) : Option ((List (S83)) × Bool) := if a0.toList = ([110, 111, 110, 101] : List UInt8) then (some (([] : List (S83)), true)) else (impl_ParseCandidate.l0 k a0 0 ([] : List (S83)))
theorem impl_ParseCandidate.mono_l : ∀ k, (∀ y0 y1 y2, LeO (impl_ParseCandidate.l0 k y0 y1 y2) (impl_ParseCandidate.l0 (k + 1) y0 y1 y2)) ∧ (∀ y0 y1 y2 y3 y4, LeO (impl_ParseCandidate.j1 k y0 y1 y2 y3 y4) (impl_ParseCandidate.j1 (k + 1) y0 y1 y2 y3 y4)) ∧ (∀ y0 y1 y2 y3, LeO (impl_ParseCandidate.j2 k y0 y1 y2 y3) (impl_ParseCandidate.j2 (k + 1) y0 y1 y2 y3))
  | 0 => ⟨fun _ _ _ r h => by simp [impl_ParseCandidate.l0] at h, fun _ _ _ _ _ r h => by simp [impl_ParseCandidate.j1] at h, fun _ _ _ _ r h => by simp [impl_ParseCandidate.j2] at h⟩
  | k + 1 => by
    obtain ⟨ih0, ih1, ih2⟩ := impl_ParseCandidate.mono_l k
    refine ⟨?_, ?_, ?_⟩
    · intro y0 y1 y2
      unfold impl_ParseCandidate.l0
      repeat' first
      | (with_reducible exact ih0 _ _ _)
      | (with_reducible exact ih1 _ _ _ _ _)
      | (with_reducible exact ih2 _ _ _ _)
      | (with_reducible exact impl_FormatCandidate.mono _ _)
      | (with_reducible exact LeO.refl _)
      | (with_reducible exact LeO.none _)
      | (with_reducible refine LeO.ite ?_ ?_)
      | (with_reducible refine LeO.bind ?_ (fun _ => ?_))
      | exact ih0 _ _ _
      | exact ih1 _ _ _ _ _
      | exact ih2 _ _ _ _
      | exact impl_FormatCandidate.mono _ _
      | exact LeO.none _
      | refine LeO.ite ?_ ?_
      | refine LeO.bind ?_ (fun _ => ?_)
    · intro y0 y1 y2 y3 y4
      unfold impl_ParseCandidate.j1
      repeat' first
      | (with_reducible exact ih0 _ _ _)
      | (with_reducible exact ih1 _ _ _ _ _)
      | (with_reducible exact ih2 _ _ _ _)
      | (with_reducible exact impl_FormatCandidate.mono _ _)
      | (with_reducible exact LeO.refl _)
      | (with_reducible exact LeO.none _)
      | (with_reducible refine LeO.ite ?_ ?_)
      | (with_reducible refine LeO.bind ?_ (fun _ => ?_))
      | exact ih0 _ _ _
      | exact ih1 _ _ _ _ _
      | exact ih2 _ _ _ _
      | exact impl_FormatCandidate.mono _ _
      | exact LeO.none _
      | refine LeO.ite ?_ ?_
      | refine LeO.bind ?_ (fun _ => ?_)
    · intro y0 y1 y2 y3
      unfold impl_ParseCandidate.j2
      repeat' first
      | (with_reducible exact ih0 _ _ _)
      | (with_reducible exact ih1 _ _ _ _ _)
      | (with_reducible exact ih2 _ _ _ _)
      | (with_reducible exact impl_FormatCandidate.mono _ _)
      | (with_reducible exact LeO.refl _)
      | (with_reducible exact LeO.none _)
      | (with_reducible refine LeO.ite ?_ ?_)
      | (with_reducible refine LeO.bind ?_ (fun _ => ?_))
      | exact ih0 _ _ _
      | exact ih1 _ _ _ _ _
      | exact ih2 _ _ _ _
      | exact impl_FormatCandidate.mono _ _
      | exact LeO.none _
      | refine LeO.ite ?_ ?_
      | refine LeO.bind ?_ (fun _ => ?_)
theorem impl_ParseCandidate.mono : ∀ a0 k, LeO (impl_ParseCandidate.f k a0) (impl_ParseCandidate.f (k + 1) a0) := by
  intro a0 k
  obtain ⟨ih0, ih1, ih2⟩ := impl_ParseCandidate.mono_l k
  unfold impl_ParseCandidate.f
  repeat' first
      | (with_reducible exact ih0 _ _ _)
      | (with_reducible exact ih1 _ _ _ _ _)
      | (with_reducible exact ih2 _ _ _ _)
      | (with_reducible exact impl_FormatCandidate.mono _ _)
      | (with_reducible exact LeO.refl _)
      | (with_reducible exact LeO.none _)
      | (with_reducible refine LeO.ite ?_ ?_)
      | (with_reducible refine LeO.bind ?_ (fun _ => ?_))
      | exact ih0 _ _ _
      | exact ih1 _ _ _ _ _
      | exact ih2 _ _ _ _
      | exact impl_FormatCandidate.mono _ _
      | exact LeO.none _
      | refine LeO.ite ?_ ?_
      | refine LeO.bind ?_ (fun _ => ?_)
def impl_ParseCandidate.T12 : Bool × List (List Nat × List Nat) := (true, [([], []), ([], []), ([0, 1], [0, 1]), ([], []), ([], []), ([3, 4], [3, 4]), ([2, 5], [2, 5]), ([], []), ([7, 6, 0, 1, 2, 3, 4, 5, 6, 7], [6, 7])])
def impl_ParseCandidate.B12 : List Nat := [0, 0, 3, 0, 0, 24, 63, 0, 255]
theorem impl_ParseCandidate.tab12 : rtab .any (opsOf Try.f49 12) = impl_ParseCandidate.T12 := by kernel_rfl
theorem impl_ParseCandidate.bits12 : waitsOk impl_ParseCandidate.T12.2 impl_ParseCandidate.B12 = true := by kernel_rfl
set_option maxHeartbeats 8000000 in
set_option maxRecDepth 100000 in
theorem impl_ParseCandidate.calls (k : Nat) (a0 : ByteArray) (r1 : List (S83)) (r2 : Bool) (w : World) (h : impl_ParseCandidate.f k a0 = some (r1, r2)) :
    Calls Try.prog 49 #[.string a0] w fun e w' => ∃ v0_ : Value, e = .returned (.tuple #[.agg #[v0_], .bool r2]) ∧ Kd.R k83 83 w' w.heap.size (fun _ => True) v0_ r1 ∧ Below w.heap.size w w' := by
  have hu49 := Try.underlying49
  have hu83 := Try.underlying83
  have HB := Aside0.mk (Below.refl w.heap.size w)
  have H : (if a0.toList = ([110, 111, 110, 101] : List UInt8) then (some (([] : List (S83)), true)) else (impl_ParseCandidate.l0 k a0 0 ([] : List (S83)))) = some (r1, r2) := h
  clear h
  by_cases c2 : a0.toList = ([110, 111, 110, 101] : List UInt8)
  · rw [if_pos c2] at H
    have c2b0 : (a0.toList == ([110, 111, 110, 101] : List UInt8)) = true := beq_iff_eq.mpr c2
    have c2b1 : (a0.toList != ([110, 111, 110, 101] : List UInt8)) = false := bne_eq_false_iff_eq.mpr c2
    clear c2
    simp only [Option.some.injEq, Prod.mk.injEq] at H
    obtain ⟨rfl, rfl⟩ := H
    go_enter Try.func49, Try.ntmps49
    go_wp2_with (first | ((with_reducible refine gate_dst (N := 2) rfl ?_); refine box_event ?hg (N := 2) ?hd (cs := #[.slice none 0 0]) (t := 49) ?hr ?_; (case hd => rfl); (case hg => rfl); (case hr => first | (go_simp; done) | (go_simp; rfl)); intro gb210 hg w3 hbox hb; have n0_ := Aside0.mk (below_step (by repeat (first | (with_reducible first | exact HB.out | apply below_alloc | apply pw_below_drewN | apply below_drew1) | exact HB.out)) hb); have n1_ := Aside0.mk (hbox); have n2_ := Aside0.mk ((by rw [hg]; exact (below_size (by repeat (first | (with_reducible first | exact HB.out | apply below_alloc | apply pw_below_drewN | apply below_drew1) | exact HB.out))) : w.heap.size ≤ gb210)); have n3_ := Aside0.mk ((by rw [hg]; exact (below_size (by repeat (first | (with_reducible first | exact HB.out | apply below_alloc | apply pw_below_drewN | apply below_drew1) | exact HB.out))) : w.heap.size ≤ gb210)); clear HB; have HB := n0_; have BK210 := n1_; have GW210 := n2_; have GE210 := n3_; clear n0_ n1_ n2_ n3_; clear hb hbox hg) | ((with_reducible refine gate_dst (N := 4) rfl ?_); refine box_event ?hg (N := 4) ?hd (cs := #[.slice none 0 0]) (t := 49) ?hr ?_; (case hd => rfl); (case hg => rfl); (case hr => first | (go_simp; done) | (go_simp; rfl)); intro gb211 hg w4 hbox hb; have n0_ := Aside0.mk (blk_below (g := gb210) (o := .cells #[.slice none 0 0] 49 (0, 0)) (by (with_reducible repeat (first | refine blk_drewN ?_ _ | refine blk_drew ?_ | refine blk_alloc ?_ _)); exact BK210.out) hb); have n1_ := Aside0.mk (below_step (by repeat (first | (with_reducible first | exact HB.out | apply below_alloc | apply pw_below_drewN | apply below_drew1 | refine below_set ?_ GE210.out) | exact HB.out)) hb); have n2_ := Aside0.mk (hbox); have n3_ := Aside0.mk ((by rw [hg]; exact (below_size (by repeat (first | (with_reducible first | exact HB.out | apply below_alloc | apply pw_below_drewN | apply below_drew1 | refine below_set ?_ GE210.out) | exact HB.out))) : w.heap.size ≤ gb211)); have n4_ := Aside0.mk ((by rw [hg]; exact (below_size (by repeat (first | (with_reducible first | exact HB.out | apply below_alloc | apply pw_below_drewN | apply below_drew1 | refine below_set ?_ GE210.out) | exact HB.out))) : w.heap.size ≤ gb211)); have n5_ := Aside0.mk ((by rw [hg]; exact Nat.ne_of_lt (blk_lt (g := gb210) (o := .cells #[.slice none 0 0] 49 (0, 0)) (by (with_reducible repeat (first | refine blk_drewN ?_ _ | refine blk_drew ?_ | refine blk_alloc ?_ _)); exact BK210.out)) : gb210 ≠ gb211)); have n6_ := Aside0.mk ((by rw [hg]; exact Nat.ne_of_gt (blk_lt (g := gb210) (o := .cells #[.slice none 0 0] 49 (0, 0)) (by (with_reducible repeat (first | refine blk_drewN ?_ _ | refine blk_drew ?_ | refine blk_alloc ?_ _)); exact BK210.out)) : gb211 ≠ gb210)); clear BK210; clear HB; have BK210 := n0_; have HB := n1_; have BK211 := n2_; have GW211 := n3_; have GE211 := n4_; have NB210_211 := n5_; have NB211_210 := n6_; clear n0_ n1_ n2_ n3_ n4_ n5_ n6_; clear hb hbox hg; have hnb5 := NB211_210.out; have hnc5 := NB210_211.out; have hcz6_0 : w4.cell? ⟨gb211, 0, none⟩ = some (.slice none 0 0) := (blk_cell BK211.out 0).trans rfl; have hfz6_0 := blk_frozen BK211.out 0; have hcz7_0 : w4.cell? ⟨gb210, 0, none⟩ = some (.slice none 0 0) := (blk_cell BK210.out 0).trans rfl; have hfz7_0 := blk_frozen BK210.out 0))
    refine bodyPost_ret (results_ct rfl _ _ gb210 49 #[.slice none 0 0] (0, 0) _ rfl (by (with_reducible repeat (first | refine blk_drewN ?_ _ | refine blk_drew ?_ | refine blk_alloc ?_ _)); refine blk_put (cs := #[.slice none 0 0]) ?_ 0 _ rfl; (with_reducible repeat (first | refine blk_drewN ?_ _ | refine blk_drew ?_ | refine blk_alloc ?_ _)); refine blk_far ?_ NB210_211.out _; (with_reducible repeat (first | refine blk_drewN ?_ _ | refine blk_drew ?_ | refine blk_alloc ?_ _)); exact BK210.out) Try.underlying49 rfl (by kernel_rfl)) rfl ?_
    exact ⟨_, by first | rfl | (simp [errW_none, errW_some] <;> rfl) | (simp [*, errW_none, errW_some] <;> rfl), by first | exact Kd.R_nil _ _ _ _ _ | exact Kd.N_nil _ _ _ _ _ | exact Kd.V_nil _ _ _ _ _ | exact Kd.Q_nil _ _ _ _ _ | exact Kd.S_nil _ _ _ _ _, by repeat (first | (with_reducible first | exact HB.out | apply below_alloc | apply pw_below_drewN | apply below_drew1 | refine below_set ?_ GE210.out | refine below_set ?_ GE211.out) | exact HB.out)⟩
  · rw [if_neg c2] at H
    have c2b0 : (a0.toList == ([110, 111, 110, 101] : List UInt8)) = false := beq_eq_false_iff_ne.mpr c2
    have c2b1 : (a0.toList != ([110, 111, 110, 101] : List UInt8)) = true := bne_iff_ne.mpr c2
    have H' := Aside0.mk H
    clear H
    go_enter Try.func49, Try.ntmps49
    go_wp2_with (first | ((with_reducible refine gate_dst (N := 2) rfl ?_); refine box_event ?hg (N := 2) ?hd (cs := #[.slice none 0 0]) (t := 49) ?hr ?_; (case hd => rfl); (case hg => rfl); (case hr => first | (go_simp; done) | (go_simp; rfl)); intro gb210 hg w8 hbox hb; have n0_ := Aside0.mk (below_step (by repeat (first | (with_reducible first | exact HB.out | apply below_alloc | apply pw_below_drewN | apply below_drew1) | exact HB.out)) hb); have n1_ := Aside0.mk (hbox); have n2_ := Aside0.mk ((by rw [hg]; exact (below_size (by repeat (first | (with_reducible first | exact HB.out | apply below_alloc | apply pw_below_drewN | apply below_drew1) | exact HB.out))) : w.heap.size ≤ gb210)); have n3_ := Aside0.mk ((by rw [hg]; exact (below_size (by repeat (first | (with_reducible first | exact HB.out | apply below_alloc | apply pw_below_drewN | apply below_drew1) | exact HB.out))) : w.heap.size ≤ gb210)); clear HB; have HB := n0_; have BK210 := n1_; have GW210 := n2_; have GE210 := n3_; clear n0_ n1_ n2_ n3_; clear hb hbox hg) | ((with_reducible refine gate_dst (N := 4) rfl ?_); refine box_event ?hg (N := 4) ?hd (cs := #[.slice none 0 0]) (t := 49) ?hr ?_; (case hd => rfl); (case hg => rfl); (case hr => first | (go_simp; done) | (go_simp; rfl)); intro gb211 hg w9 hbox hb; have n0_ := Aside0.mk (blk_below (g := gb210) (o := .cells #[.slice none 0 0] 49 (0, 0)) (by (with_reducible repeat (first | refine blk_drewN ?_ _ | refine blk_drew ?_ | refine blk_alloc ?_ _)); exact BK210.out) hb); have n1_ := Aside0.mk (below_step (by repeat (first | (with_reducible first | exact HB.out | apply below_alloc | apply pw_below_drewN | apply below_drew1 | refine below_set ?_ GE210.out) | exact HB.out)) hb); have n2_ := Aside0.mk (hbox); have n3_ := Aside0.mk ((by rw [hg]; exact (below_size (by repeat (first | (with_reducible first | exact HB.out | apply below_alloc | apply pw_below_drewN | apply below_drew1 | refine below_set ?_ GE210.out) | exact HB.out))) : w.heap.size ≤ gb211)); have n4_ := Aside0.mk ((by rw [hg]; exact (below_size (by repeat (first | (with_reducible first | exact HB.out | apply below_alloc | apply pw_below_drewN | apply below_drew1 | refine below_set ?_ GE210.out) | exact HB.out))) : w.heap.size ≤ gb211)); have n5_ := Aside0.mk ((by rw [hg]; exact Nat.ne_of_lt (blk_lt (g := gb210) (o := .cells #[.slice none 0 0] 49 (0, 0)) (by (with_reducible repeat (first | refine blk_drewN ?_ _ | refine blk_drew ?_ | refine blk_alloc ?_ _)); exact BK210.out)) : gb210 ≠ gb211)); have n6_ := Aside0.mk ((by rw [hg]; exact Nat.ne_of_gt (blk_lt (g := gb210) (o := .cells #[.slice none 0 0] 49 (0, 0)) (by (with_reducible repeat (first | refine blk_drewN ?_ _ | refine blk_drew ?_ | refine blk_alloc ?_ _)); exact BK210.out)) : gb211 ≠ gb210)); clear BK210; clear HB; have BK210 := n0_; have HB := n1_; have BK211 := n2_; have GW211 := n3_; have GE211 := n4_; have NB210_211 := n5_; have NB211_210 := n6_; clear n0_ n1_ n2_ n3_ n4_ n5_ n6_; clear hb hbox hg; have hnb10 := NB211_210.out; have hnc10 := NB210_211.out; have hcz11_0 : w9.cell? ⟨gb211, 0, none⟩ = some (.slice none 0 0) := (blk_cell BK211.out 0).trans rfl; have hfz11_0 := blk_frozen BK211.out 0))
    go_loopg [5] k (fun kq v5 w' => ∃ (x5_1 : Int) (x212000_1 : List (S83)) (u212000 : Value), v5 = .int .i64 x5_1 ∧ Aside0 (impl_ParseCandidate.l0 kq a0 x5_1 x212000_1 = some (r1, r2)) ∧ Aside0 (kq ≤ k) ∧ Aside0 (Kd.R k83 83 w' w.heap.size (fun _ => True) u212000 x212000_1) ∧ Aside0 (w'.heap[gb210]? = some (.cells #[(.slice none 0 0)] 49 (0, 0))) ∧ Aside0 (w'.heap[gb211]? = some (.cells #[u212000] 49 (0, 0))) ∧ Aside0 (Below w.heap.size w w'))
    case atStart => exact ⟨(0), (([] : List (S83))), (.slice none 0 0), (by first | rfl | (simp; done) | (simp [*]; done)), H', ⟨Nat.le_refl _⟩, ⟨by first | exact Kd.R_nil _ _ _ _ _ | exact Kd.N_nil _ _ _ _ _ | exact Kd.V_nil _ _ _ _ _ | exact Kd.Q_nil _ _ _ _ _ | exact Kd.S_nil _ _ _ _ _⟩, ⟨by (with_reducible repeat (first | refine blk_drewN ?_ _ | refine blk_drew ?_ | refine blk_alloc ?_ _)); refine blk_far ?_ NB210_211.out _; (with_reducible repeat (first | refine blk_drewN ?_ _ | refine blk_drew ?_ | refine blk_alloc ?_ _)); exact BK210.out⟩, ⟨by (with_reducible repeat (first | refine blk_drewN ?_ _ | refine blk_drew ?_ | refine blk_alloc ?_ _)); refine blk_put (cs := #[.slice none 0 0]) ?_ 0 _ rfl; (with_reducible repeat (first | refine blk_drewN ?_ _ | refine blk_drew ?_ | refine blk_alloc ?_ _)); exact BK211.out⟩, ⟨by repeat (first | (with_reducible first | exact HB.out | apply below_alloc | apply pw_below_drewN | apply below_drew1 | refine below_set ?_ GE210.out | refine below_set ?_ GE211.out) | exact HB.out)⟩⟩
    case round =>
      clear H'
      try clear c1
      try clear c2
      try clear c2b0
      try clear c2b1
      try clear p2
      try clear c4
      try clear c5
      try clear c10
      try clear hcz11_0
      try clear hcz6_0
      try clear hcz7_0
      try clear hfz11_0
      try clear hfz6_0
      try clear hfz7_0
      obtain ⟨x5_1, x212000_1, u212000, rfl, HA, HK1, HO_212000, BK210, BK211, HB⟩ := hrel
      cases gk with
      | zero => exact absurd HA.out (by simp [impl_ParseCandidate.l0])
      | succ k1 =>
        have H := HA.out
        clear HA
        simp only [impl_ParseCandidate.l0] at H
        by_cases c12 : x5_1 < (a0.size : Int)
        · rw [if_pos c12] at H
          have c12b0 : decide (x5_1 < (a0.size : Int)) = true := decide_eq_true c12
          clear c12
          by_cases c13 : 0 ≤ x5_1
          · rw [if_pos c13] at H
            have c13b0 : decide (0 ≤ x5_1) = true := decide_eq_true c13
            clear c13
            have HC15 := Aside0.mk H
            clear H
            have p14 : 0 ≤ (x5_1 : Int) := of_decide_eq_true (by first | (with_reducible assumption) | assumption)
            have q14 : x5_1 < (a0.size : Int) := of_decide_eq_true (by first | (with_reducible assumption) | assumption)
            have hx14 := bt_at a0 x5_1
            replace p14 := eq_true p14
            replace q14 := eq_true q14
            go_upto_region 8 with (fail)
            go_cut [30] (fun v30 wc => ∃ (kq : Nat) (x30_14 : Bool), v30 = .bool x30_14 ∧ Aside0 (impl_ParseCandidate.j1 kq a0 x5_1 (bt a0 x5_1) x30_14 x212000_1 = some (r1, r2)) ∧ Aside0 (kq ≤ k1) ∧ Aside0 (Kd.R k83 83 wc w.heap.size (fun _ => True) u212000 x212000_1) ∧ Aside0 (wc.heap[gb210]? = some (.cells #[(.slice none 0 0)] 49 (0, 0))) ∧ Aside0 (wc.heap[gb211]? = some (.cells #[u212000] 49 (0, 0))) ∧ Aside0 (Below w.heap.size w wc))
            case first =>
              have H := HC15.out
              clear HC15
              by_cases c16 : (bt a0 x5_1) = 43
              · rw [if_pos c16] at H
                have c16b0 : ((bt a0 x5_1) == 43) = true := beq_iff_eq.mpr c16
                have c16b1 : ((bt a0 x5_1) != 43) = false := bne_eq_false_iff_eq.mpr c16
                clear c16
                (first | rw [c16b0] | (simp only [i64_w, i32_w]; rw [c16b0]) | skip)
                have H' := Aside0.mk H
                clear H
                go_wp2
                go_meet
                case rel => exact ⟨_, (true), (by first | rfl | (simp; done) | (simp [*]; done)), H', ⟨by have := HK1.out; first | omega | exact Nat.le_refl _⟩, ⟨by (with_reducible repeat (first | apply Kd.R_alloc | apply Kd.R_drewN | apply Kd.R_drew)); exact HO_212000.out⟩, ⟨by (with_reducible repeat (first | refine blk_drewN ?_ _ | refine blk_drew ?_ | refine blk_alloc ?_ _)); exact BK210.out⟩, ⟨by (with_reducible repeat (first | refine blk_drewN ?_ _ | refine blk_drew ?_ | refine blk_alloc ?_ _)); exact BK211.out⟩, ⟨by repeat (first | (with_reducible first | exact HB.out | apply below_alloc | apply pw_below_drewN | apply below_drew1 | refine below_set ?_ GE210.out | refine below_set ?_ GE211.out) | exact HB.out)⟩⟩
              · rw [if_neg c16] at H
                have c16b0 : ((bt a0 x5_1) == 43) = false := beq_eq_false_iff_ne.mpr c16
                have c16b1 : ((bt a0 x5_1) != 43) = true := bne_iff_ne.mpr c16
                (first | rw [c16b0] | (simp only [i64_w, i32_w]; rw [c16b0]) | skip)
                by_cases c17 : (bt a0 x5_1) = 45
                · rw [if_pos c17] at H
                  have c17b0 : ((bt a0 x5_1) == 45) = true := beq_iff_eq.mpr c17
                  have c17b1 : ((bt a0 x5_1) != 45) = false := bne_eq_false_iff_eq.mpr c17
                  clear c17
                  have H' := Aside0.mk H
                  clear H
                  go_wp2
                  go_meet
                  case rel => exact ⟨_, (true), (by first | rfl | (simp; done) | (simp [*]; done)), H', ⟨by have := HK1.out; first | omega | exact Nat.le_refl _⟩, ⟨by (with_reducible repeat (first | apply Kd.R_alloc | apply Kd.R_drewN | apply Kd.R_drew)); exact HO_212000.out⟩, ⟨by (with_reducible repeat (first | refine blk_drewN ?_ _ | refine blk_drew ?_ | refine blk_alloc ?_ _)); exact BK210.out⟩, ⟨by (with_reducible repeat (first | refine blk_drewN ?_ _ | refine blk_drew ?_ | refine blk_alloc ?_ _)); exact BK211.out⟩, ⟨by repeat (first | (with_reducible first | exact HB.out | apply below_alloc | apply pw_below_drewN | apply below_drew1 | refine below_set ?_ GE210.out | refine below_set ?_ GE211.out) | exact HB.out)⟩⟩
                · rw [if_neg c17] at H
                  have c17b0 : ((bt a0 x5_1) == 45) = false := beq_eq_false_iff_ne.mpr c17
                  have c17b1 : ((bt a0 x5_1) != 45) = true := bne_iff_ne.mpr c17
                  have H' := Aside0.mk H
                  clear H
                  go_wp2
                  go_meet
                  case rel => exact ⟨_, (((bt a0 x5_1) == 42)), (by first | rfl | (simp; done) | (simp [*]; done)), H', ⟨by have := HK1.out; first | omega | exact Nat.le_refl _⟩, ⟨by (with_reducible repeat (first | apply Kd.R_alloc | apply Kd.R_drewN | apply Kd.R_drew)); exact HO_212000.out⟩, ⟨by (with_reducible repeat (first | refine blk_drewN ?_ _ | refine blk_drew ?_ | refine blk_alloc ?_ _)); exact BK210.out⟩, ⟨by (with_reducible repeat (first | refine blk_drewN ?_ _ | refine blk_drew ?_ | refine blk_alloc ?_ _)); exact BK211.out⟩, ⟨by repeat (first | (with_reducible first | exact HB.out | apply below_alloc | apply pw_below_drewN | apply below_drew1 | refine below_set ?_ GE210.out | refine below_set ?_ GE211.out) | exact HB.out)⟩⟩
            case rest =>
              clear HC15
              try clear c1
              try clear p1
              try clear q1
              try clear hx1
              try clear c2
              try clear c2b0
              try clear c2b1
              try clear p2
              try clear c4
              try clear c5
              try clear c10
              try clear c12
              try clear c12b0
              try clear c13
              try clear c13b0
              try clear p14
              try clear q14
              try clear hx14
              try clear c16
              try clear c16b0
              try clear c16b1
              try clear c17
              try clear c17b0
              try clear c17b1
              try clear hcz11_0
              try clear hcz6_0
              try clear hcz7_0
              try clear hfz11_0
              try clear hfz6_0
              try clear hfz7_0
              try clear p14
              try clear p2
              try clear q14
              obtain ⟨kq, x30_14, rfl, HA, HJ14, HO_212000, BK210, BK211, HB⟩ := hcut
              cases kq with
              | zero => exact absurd HA.out (by simp [impl_ParseCandidate.j1])
              | succ kj14 =>
                have H := HA.out
                clear HA
                simp only [impl_ParseCandidate.j1] at H
                have HC18 := Aside0.mk H
                clear H
                go_upto_if 30 with (fail)
                go_cut [5] (fun v5 wc => ∃ (kq : Nat) (x5_17 : Int), v5 = .int .i64 x5_17 ∧ Aside0 (impl_ParseCandidate.j2 kq a0 x5_17 (bt a0 x5_1) x212000_1 = some (r1, r2)) ∧ Aside0 (kq ≤ kj14) ∧ Aside0 (Kd.R k83 83 wc w.heap.size (fun _ => True) u212000 x212000_1) ∧ Aside0 (wc.heap[gb210]? = some (.cells #[(.slice none 0 0)] 49 (0, 0))) ∧ Aside0 (wc.heap[gb211]? = some (.cells #[u212000] 49 (0, 0))) ∧ Aside0 (Below w.heap.size w wc))
                case first =>
                  have H := HC18.out
                  clear HC18
                  by_cases c19 : x30_14 = true
                  · subst c19
                    have H1 : (impl_ParseCandidate.j2 kj14 a0 (wrap64 (x5_1 + 1)) (bt a0 x5_1) x212000_1) = some (r1, r2) := by rw [if_pos rfl] at H; exact H
                    clear H
                    have H := H1
                    clear H1
                    have H' := Aside0.mk H
                    clear H
                    go_wp2
                    go_meet
                    case rel => exact ⟨_, (wrap64 (x5_1 + 1)), (by first | rfl | (simp; done) | (simp [*]; done)), H', ⟨by have := HK1.out; have := HJ14.out; first | omega | exact Nat.le_refl _⟩, ⟨by (with_reducible repeat (first | apply Kd.R_alloc | apply Kd.R_drewN | apply Kd.R_drew)); exact HO_212000.out⟩, ⟨by (with_reducible repeat (first | refine blk_drewN ?_ _ | refine blk_drew ?_ | refine blk_alloc ?_ _)); exact BK210.out⟩, ⟨by (with_reducible repeat (first | refine blk_drewN ?_ _ | refine blk_drew ?_ | refine blk_alloc ?_ _)); exact BK211.out⟩, ⟨by repeat (first | (with_reducible first | exact HB.out | apply below_alloc | apply pw_below_drewN | apply below_drew1 | refine below_set ?_ GE210.out | refine below_set ?_ GE211.out) | exact HB.out)⟩⟩
                  · replace c19 := Bool.eq_false_iff.mpr c19
                    subst c19
                    have H1 : (impl_ParseCandidate.j2 kj14 a0 x5_1 (bt a0 x5_1) x212000_1) = some (r1, r2) := by rw [if_neg (show ¬ (false = true) by decide)] at H; exact H
                    clear H
                    have H := H1
                    clear H1
                    have H' := Aside0.mk H
                    clear H
                    go_wp2
                    go_meet
                    case rel => exact ⟨_, (x5_1), (by first | rfl | (simp; done) | (simp [*]; done)), H', ⟨by have := HK1.out; have := HJ14.out; first | omega | exact Nat.le_refl _⟩, ⟨by (with_reducible repeat (first | apply Kd.R_alloc | apply Kd.R_drewN | apply Kd.R_drew)); exact HO_212000.out⟩, ⟨by (with_reducible repeat (first | refine blk_drewN ?_ _ | refine blk_drew ?_ | refine blk_alloc ?_ _)); exact BK210.out⟩, ⟨by (with_reducible repeat (first | refine blk_drewN ?_ _ | refine blk_drew ?_ | refine blk_alloc ?_ _)); exact BK211.out⟩, ⟨by repeat (first | (with_reducible first | exact HB.out | apply below_alloc | apply pw_below_drewN | apply below_drew1 | refine below_set ?_ GE210.out | refine below_set ?_ GE211.out) | exact HB.out)⟩⟩
                case rest =>
                  clear HC18
                  try clear c1
                  try clear p1
                  try clear q1
                  try clear hx1
                  try clear c2
                  try clear c2b0
                  try clear c2b1
                  try clear p2
                  try clear c4
                  try clear c5
                  try clear p6
                  try clear c10
                  try clear c12
                  try clear c12b0
                  try clear c13
                  try clear c13b0
                  try clear p14
                  try clear q14
                  try clear hx14
                  try clear c16
                  try clear c16b0
                  try clear c16b1
                  try clear c17
                  try clear c17b0
                  try clear c17b1
                  try clear c19
                  try clear hcz11_0
                  try clear hcz6_0
                  try clear hcz7_0
                  try clear hfz11_0
                  try clear hfz6_0
                  try clear hfz7_0
                  try clear p1
                  try clear p14
                  try clear p2
                  try clear q1
                  try clear q14
                  obtain ⟨kq, x5_17, rfl, HA, HJ17, HO_212000, BK210, BK211, HB⟩ := hcut
                  cases kq with
                  | zero => exact absurd HA.out (by simp [impl_ParseCandidate.j2])
                  | succ kj17 =>
                    have H := HA.out
                    clear HA
                    simp only [impl_ParseCandidate.j2] at H
                    by_cases c20 : x5_17 = (a0.size : Int)
                    · rw [if_pos c20] at H
                      have c20b0 : (x5_17 == (a0.size : Int)) = true := beq_iff_eq.mpr c20
                      have c20b1 : (x5_17 != (a0.size : Int)) = false := bne_eq_false_iff_eq.mpr c20
                      clear c20
                      simp only [Option.some.injEq, Prod.mk.injEq] at H
                      obtain ⟨rfl, rfl⟩ := H
                      have hnb21 := NB210_211.out
                      have hnc21 := NB211_210.out
                      have hcz22_0 : wc.cell? ⟨gb210, 0, none⟩ = some (.slice none 0 0) := (blk_cell BK210.out 0).trans rfl
                      have hfz22_0 := blk_frozen BK210.out 0
                      go_wp2
                      refine bodyPost_ret (results_ct rfl _ _ gb210 49 #[.slice none 0 0] (0, 0) _ rfl (by (with_reducible repeat (first | refine blk_drewN ?_ _ | refine blk_drew ?_ | refine blk_alloc ?_ _)); refine blk_put (cs := #[.slice none 0 0]) ?_ 0 _ rfl; (with_reducible repeat (first | refine blk_drewN ?_ _ | refine blk_drew ?_ | refine blk_alloc ?_ _)); exact BK210.out) Try.underlying49 rfl (by kernel_rfl)) rfl ?_
                      exact ⟨_, by first | rfl | (simp [errW_none, errW_some] <;> rfl) | (simp [*, errW_none, errW_some] <;> rfl), by first | exact Kd.R_nil _ _ _ _ _ | exact Kd.N_nil _ _ _ _ _ | exact Kd.V_nil _ _ _ _ _ | exact Kd.Q_nil _ _ _ _ _ | exact Kd.S_nil _ _ _ _ _, by repeat (first | (with_reducible first | exact HB.out | apply below_alloc | apply pw_below_drewN | apply below_drew1 | refine below_set ?_ GE210.out | refine below_set ?_ GE211.out) | exact HB.out)⟩
                    · rw [if_neg c20] at H
                      have c20b0 : (x5_17 == (a0.size : Int)) = false := beq_eq_false_iff_ne.mpr c20
                      have c20b1 : (x5_17 != (a0.size : Int)) = true := bne_iff_ne.mpr c20
                      by_cases c23 : 0 ≤ x5_17
                      · rw [if_pos c23] at H
                        have c23b0 : decide (0 ≤ x5_17) = true := decide_eq_true c23
                        clear c23
                        by_cases c24 : x5_17 < (a0.size : Int)
                        · rw [if_pos c24] at H
                          have c24b0 : decide (x5_17 < (a0.size : Int)) = true := decide_eq_true c24
                          clear c24
                          by_cases c27 : (bt a0 x5_1) = 43
                          · rw [if_pos c27] at H
                            have c27b0 : ((bt a0 x5_1) == 43) = true := beq_iff_eq.mpr c27
                            have c27b1 : ((bt a0 x5_1) != 43) = false := bne_eq_false_iff_eq.mpr c27
                            clear c27
                            by_cases c28 : x212000_1.length < 70368744177664
                            · rw [if_pos c28] at H
                              have LMc28 := Aside0.mk c28
                              clear c28
                              obtain ⟨y214, hy214⟩ : ∃ y_ : List (S83), y_ = (x212000_1 ++ [(⟨0, bt a0 x5_17⟩ : S83)]) := ⟨_, rfl⟩
                              replace H : (impl_ParseCandidate.l0 kj17 a0 (wrap64 (x5_17 + 1)) y214) = some (r1, r2) := by first | (rw [hy214]; with_reducible exact H) | (have H2_ := (Option.bind_some _ _).symm.trans H; rw [hy214]; with_reducible exact H2_) | (have H2_ := (Option.bind_some _ _).symm.trans H; with_reducible exact H2_) | with_reducible exact H | (rw [hy214]; exact H) | exact H
                              have Ny214 := Aside0.mk hy214
                              clear hy214
                              have H' := Aside0.mk H
                              clear H
                              try go_wp2
                              have n0_ := Aside0.mk (Kd.R_drew HO_212000.out)
                              have n1_ := Aside0.mk (blk_drew BK210.out)
                              have n2_ := Aside0.mk (blk_drew BK211.out)
                              have n3_ := Aside0.mk (below_drew1 HB.out)
                              clear HO_212000
                              clear BK210
                              clear BK211
                              clear HB
                              have HO_212000 := n0_
                              have BK210 := n1_
                              have BK211 := n2_
                              have HB := n3_
                              clear n0_ n1_ n2_ n3_
                              have p25 : 0 ≤ (x5_17 : Int) := of_decide_eq_true (by first | (with_reducible assumption) | assumption)
                              have q25 : x5_17 < (a0.size : Int) := of_decide_eq_true (by first | (with_reducible assumption) | assumption)
                              have hx25 := bt_at a0 x5_17
                              replace p25 := eq_true p25
                              replace q25 := eq_true q25
                              have p26 : 0 ≤ (x5_17 : Int) := of_decide_eq_true (by first | (with_reducible assumption) | assumption)
                              have q26 : x5_17 < (a0.size : Int) := of_decide_eq_true (by first | (with_reducible assumption) | assumption)
                              have hx26 := bt_at a0 x5_17
                              replace p26 := eq_true p26
                              replace q26 := eq_true q26
                              refine start_ (n := 9) (S := fun w' => True) (ds := []) #[false, false, false, false, false, false, false, false, false] (by kernel_rfl) rfl rfl trivial (fun hHeld => ?_); refine with_tabW impl_ParseCandidate.tab12 impl_ParseCandidate.bits12 (fun HT_ HW_ => ?_)
                              generalize wc.drew = w29 at HO_212000 BK210 BK211 HB hHeld ⊢
                              refine pure_ (i := 0) (N := some 38) (v := ?_) (a' := ?_) #[true, false, false, false, false, false, false, false, false] rfl rfl (any_of HT_.out (by kernel_rfl)) (fun _ _ _ h => h) (Or.inl ⟨by rfl, ?_⟩) ?_ ?_
                              rotate_left
                              · intro w'
                                go_simp
                                with_reducible rfl
                              rotate_left
                              · simp only [Act.put, List.setIfInBounds_toArray, List.set_cons_zero, List.set_cons_succ, i64_w, i32_w]
                                rfl
                              refine pure_ (i := 1) (N := some 39) (v := ?_) (a' := ?_) #[true, true, false, false, false, false, false, false, false] rfl rfl (any_of HT_.out (by kernel_rfl)) (fun _ _ _ h => h) (Or.inl ⟨by rfl, ?_⟩) ?_ ?_
                              rotate_left
                              · intro w'
                                go_simp
                                with_reducible rfl
                              rotate_left
                              · simp only [Act.put, List.setIfInBounds_toArray, List.set_cons_zero, List.set_cons_succ, i64_w, i32_w]
                                rfl
                              refine pure_ (i := 3) (N := some 41) (v := ?_) (a' := ?_) #[true, true, false, true, false, false, false, false, false] rfl rfl (any_of HT_.out (by kernel_rfl)) (fun _ _ _ h => h) (Or.inl ⟨by rfl, ?_⟩) ?_ ?_
                              rotate_left
                              · intro w'
                                go_simp
                                with_reducible rfl
                              rotate_left
                              · simp only [Act.put, List.setIfInBounds_toArray, List.set_cons_zero, List.set_cons_succ, i64_w, i32_w]
                                rfl
                              refine pure_ (i := 4) (N := some 42) (v := ?_) (a' := ?_) #[true, true, false, true, true, false, false, false, false] rfl rfl (any_of HT_.out (by kernel_rfl)) (fun _ _ _ h => h) (Or.inl ⟨by rfl, ?_⟩) ?_ ?_
                              rotate_left
                              · intro w'
                                go_simp
                                with_reducible rfl
                              rotate_left
                              · simp only [Act.put, List.setIfInBounds_toArray, List.set_cons_zero, List.set_cons_succ, i64_w, i32_w]
                                rfl
                              refine take_ (i := 2) (N := some 40) (v := ?_) (a' := ?_) #[true, true, true, true, true, false, false, false, false] rfl rfl (take_ofW HT_.out HW_.out (by kernel_rfl)) (fun _ _ _ h => h) (Or.inl ⟨by rfl, ?_⟩) hHeld ?_ ?_
                              rotate_left
                              · intro w' _
                                go_simp
                                with_reducible rfl
                              rotate_left
                              · simp only [Act.put, List.setIfInBounds_toArray, List.set_cons_zero, List.set_cons_succ, i64_w, i32_w]
                                rfl
                              refine take_ (i := 5) (N := some 43) (v := ?_) (a' := ?_) #[true, true, true, true, true, true, false, false, false] rfl rfl (take_ofW HT_.out HW_.out (by kernel_rfl)) (fun _ _ _ h => h) (Or.inl ⟨by rfl, ?_⟩) hHeld ?_ ?_
                              rotate_left
                              · intro w' _
                                go_simp
                                with_reducible rfl
                              rotate_left
                              · simp only [Act.put, List.setIfInBounds_toArray, List.set_cons_zero, List.set_cons_succ, i64_w, i32_w]
                                rfl
                              refine pure_ (i := 6) (N := some 44) (v := ?_) (a' := ?_) #[true, true, true, true, true, true, true, false, false] rfl rfl (any_of HT_.out (by kernel_rfl)) (fun _ _ _ h => h) (Or.inl ⟨by rfl, ?_⟩) ?_ ?_
                              rotate_left
                              · intro w'
                                go_simp
                                with_reducible rfl
                              rotate_left
                              · simp only [Act.put, List.setIfInBounds_toArray, List.set_cons_zero, List.set_cons_succ, i64_w, i32_w]
                                rfl
                              refine one_ (i := 7) (N := some 7) #[true, true, true, true, true, true, true, true, false] rfl rfl (one_of HT_.out (by kernel_rfl)) (by decide) (fun K hK => ?_)
                              refine box_step ?hg (N := 7) ?hd (cs := #[.int .u8 0, .int .u8 0]) (t := 83) ?hr ?_; (case hd => rfl); (case hg => rfl); (case hr => first | (go_simp; done) | (go_simp; rfl))
                              intro gb213 hg w30 hbox hb
                              have n0_ := Aside0.mk (Kd.R_below (Kd.R_elderB (by (with_reducible repeat (first | apply Kd.R_alloc | apply Kd.R_drewN | apply Kd.R_drew)); exact HO_212000.out) gb213 (Nat.le_of_eq hg.symm)) hb)
                              have n1_ := Aside0.mk (blk_below (g := gb210) (o := .cells #[.slice none 0 0] 49 (0, 0)) (by (with_reducible repeat (first | refine blk_drewN ?_ _ | refine blk_drew ?_ | refine blk_alloc ?_ _)); exact BK210.out) hb)
                              have n2_ := Aside0.mk (blk_below (g := gb211) (o := .cells #[u212000] 49 (0, 0)) (by (with_reducible repeat (first | refine blk_drewN ?_ _ | refine blk_drew ?_ | refine blk_alloc ?_ _)); exact BK211.out) hb)
                              have n3_ := Aside0.mk (below_step (by repeat (first | (with_reducible first | exact HB.out | apply below_alloc | apply pw_below_drewN | apply below_drew1 | refine below_set ?_ GE210.out | refine below_set ?_ GE211.out) | exact HB.out)) hb)
                              have n4_ := Aside0.mk (hbox)
                              have n5_ := Aside0.mk ((by rw [hg]; exact (below_size (by repeat (first | (with_reducible first | exact HB.out | apply below_alloc | apply pw_below_drewN | apply below_drew1 | refine below_set ?_ GE210.out | refine below_set ?_ GE211.out) | exact HB.out))) : w.heap.size ≤ gb213))
                              have n6_ := Aside0.mk ((by rw [hg]; exact (below_size (by repeat (first | (with_reducible first | exact HB.out | apply below_alloc | apply pw_below_drewN | apply below_drew1 | refine below_set ?_ GE210.out | refine below_set ?_ GE211.out) | exact HB.out))) : w.heap.size ≤ gb213))
                              have n7_ := Aside0.mk ((by rw [hg]; exact Nat.ne_of_lt (blk_lt (g := gb210) (o := .cells #[.slice none 0 0] 49 (0, 0)) (by (with_reducible repeat (first | refine blk_drewN ?_ _ | refine blk_drew ?_ | refine blk_alloc ?_ _)); exact BK210.out)) : gb210 ≠ gb213))
                              have n8_ := Aside0.mk ((by rw [hg]; exact Nat.ne_of_gt (blk_lt (g := gb210) (o := .cells #[.slice none 0 0] 49 (0, 0)) (by (with_reducible repeat (first | refine blk_drewN ?_ _ | refine blk_drew ?_ | refine blk_alloc ?_ _)); exact BK210.out)) : gb213 ≠ gb210))
                              have n9_ := Aside0.mk ((by rw [hg]; exact Nat.ne_of_lt (blk_lt (g := gb211) (o := .cells #[u212000] 49 (0, 0)) (by (with_reducible repeat (first | refine blk_drewN ?_ _ | refine blk_drew ?_ | refine blk_alloc ?_ _)); exact BK211.out)) : gb211 ≠ gb213))
                              have n10_ := Aside0.mk ((by rw [hg]; exact Nat.ne_of_gt (blk_lt (g := gb211) (o := .cells #[u212000] 49 (0, 0)) (by (with_reducible repeat (first | refine blk_drewN ?_ _ | refine blk_drew ?_ | refine blk_alloc ?_ _)); exact BK211.out)) : gb213 ≠ gb211))
                              clear HO_212000
                              clear BK210
                              clear BK211
                              clear HB
                              have HO_212000 := n0_
                              have BK210 := n1_
                              have BK211 := n2_
                              have HB := n3_
                              have BK213 := n4_
                              have GW213 := n5_
                              have GE213 := n6_
                              have NB210_213 := n7_
                              have NB213_210 := n8_
                              have NB211_213 := n9_
                              have NB213_211 := n10_
                              clear n0_ n1_ n2_ n3_ n4_ n5_ n6_ n7_ n8_ n9_ n10_
                              clear hb hbox hg
                              refine hK.out _ _ trivial (fun hHeld => ?_)
                              clear hK K
                              refine norm_ (a' := ?_) ?_ ?_
                              rotate_left
                              · show Act.put _ (some 7) _ = _
                                simp only [Act.put, List.setIfInBounds_toArray, List.set_cons_zero, List.set_cons_succ, i64_w, i32_w]
                                rfl
                              refine one_ (i := 8) (N := none) #[true, true, true, true, true, true, true, true, true] rfl rfl (one_of HT_.out (by kernel_rfl)) (by decide) (fun K hK => ?_)
                              have hs31 : w30.cell? ⟨gb213, 0, none⟩ = some (.int .u8 0) := (blk_cell BK213.out 0).trans rfl
                              have hfs31 := blk_frozen BK213.out 0
                              have hns31_0 := NB210_213.out
                              have hns31_1 := NB211_213.out
                              have hms31_0 := NB213_210.out
                              have hms31_1 := NB213_211.out
                              have hs32 : w30.cell? ⟨gb213, 1, none⟩ = some (.int .u8 0) := (blk_cell BK213.out 1).trans rfl
                              have hfs32 := blk_frozen BK213.out 1
                              have hns32_0 := NB210_213.out
                              have hns32_1 := NB211_213.out
                              have hms32_0 := NB213_210.out
                              have hms32_1 := NB213_211.out
                              refine skip_ (w1 := ?_) (by rfl) rfl ?_ ?_
                              rotate_left
                              · go_simp
                                rfl
                              refine hK.out _ _ trivial (fun hHeld => ?_)
                              clear hK K
                              refine done_ (done_of HT_.out (by kernel_rfl)) ?_
                              have hnb33 := NB213_210.out
                              have hnc33 := NB210_213.out
                              have hnb34 := NB213_211.out
                              have hnc34 := NB211_213.out
                              have hcz35_0 : w30.cell? ⟨gb213, 0, none⟩ = some (.int .u8 0) := (blk_cell BK213.out 0).trans rfl
                              have hcz35_1 : w30.cell? ⟨gb213, 1, none⟩ = some (.int .u8 0) := (blk_cell BK213.out 1).trans rfl
                              have hfz35_0 := blk_frozen BK213.out 0
                              have hfz35_1 := blk_frozen BK213.out 1
                              have hnb36 := NB211_210.out
                              have hnc36 := NB210_211.out
                              have hcz37_0 : w30.cell? ⟨gb211, 0, none⟩ = some (u212000) := (blk_cell BK211.out 0).trans rfl
                              have hfz37_0 := blk_frozen BK211.out 0
                              (try have zl_ := Aside0.mk (blk_set (blk_set (blk_set BK213.out 0 (.int .u8 (bt a0 x5_17))) 1 (.int .u8 (bt a0 x5_17))) 0 (.int .u8 0)))
                              (try have hczl_0 : (((w30.setCell ⟨gb213, 0, none⟩ (.int .u8 (bt a0 x5_17))).setCell ⟨gb213, 1, none⟩ (.int .u8 (bt a0 x5_17))).setCell ⟨gb213, 0, none⟩ (.int .u8 0)).cell? ⟨gb213, 0, none⟩ = some (.int .u8 0) := (blk_cell zl_.out 0).trans rfl)
                              (try have hczl_1 : (((w30.setCell ⟨gb213, 0, none⟩ (.int .u8 (bt a0 x5_17))).setCell ⟨gb213, 1, none⟩ (.int .u8 (bt a0 x5_17))).setCell ⟨gb213, 0, none⟩ (.int .u8 0)).cell? ⟨gb213, 1, none⟩ = some (.int .u8 (bt a0 x5_17)) := (blk_cell zl_.out 1).trans rfl)
                              (try have hczm211_0 : (((w30.setCell ⟨gb213, 0, none⟩ (.int .u8 (bt a0 x5_17))).setCell ⟨gb213, 1, none⟩ (.int .u8 (bt a0 x5_17))).setCell ⟨gb213, 0, none⟩ (.int .u8 0)).cell? ⟨gb211, 0, none⟩ = some (u212000) := (blk_cell (blk_far (p := ⟨gb213, 0, none⟩) (blk_far (p := ⟨gb213, 1, none⟩) (blk_far (p := ⟨gb213, 0, none⟩) BK211.out NB211_213.out (.int .u8 (bt a0 x5_17))) NB211_213.out (.int .u8 (bt a0 x5_17))) NB211_213.out (.int .u8 0)) 0).trans rfl)
                              try go_wp2_with (first | ((with_reducible refine gate_builtin (b := .append) (xs := #[.tmp 63, .tmp 65]) rfl ?_); at_builtin; refine Kd.R_append k83 (w0 := w) w.heap.size rfl (.tmp 63) (.tmp 65) 47 83 (.agg #[(.int .u8 0), (.int .u8 0)]) 2 rfl Try.underlying47 info83 rfl (by decide) (by omega) u212000 x212000_1 (⟨0, bt a0 x5_17⟩ : S83) [.int .u8 0, .int .u8 (bt a0 x5_17)] (fun k_ => k_ ≠ gb213) (fun _ => False) rfl (by first | (go_simp; done) | (go_simp; rfl)) ?aP (fun _ hk => hk.elim) ?aF ?aO ?aB ?aS ?aL ?_; (case aP => exact k83_mkM _ _ _ (⟨0, bt a0 x5_17⟩ : S83)); (case aB => exact (by repeat (first | (with_reducible first | exact HB.out | apply below_alloc | apply pw_below_drewN | apply below_drew1 | refine below_set ?_ GE210.out | refine below_set ?_ GE211.out | refine below_set ?_ GE213.out) | exact HB.out))); (case aF => exact (fun k_ hk => Kd.freshB (g := gb213) (o := .cells #[.int .u8 0, .int .u8 (bt a0 x5_17)] 83 (0, 0)) (by (with_reducible repeat (first | refine blk_drewN ?_ _ | refine blk_drew ?_ | refine blk_alloc ?_ _)); refine blk_put (cs := #[.int .u8 (bt a0 x5_17), .int .u8 (bt a0 x5_17)]) ?_ 0 _ rfl; (with_reducible repeat (first | refine blk_drewN ?_ _ | refine blk_drew ?_ | refine blk_alloc ?_ _)); refine blk_put (cs := #[.int .u8 (bt a0 x5_17), .int .u8 0]) ?_ 1 _ rfl; (with_reducible repeat (first | refine blk_drewN ?_ _ | refine blk_drew ?_ | refine blk_alloc ?_ _)); refine blk_put (cs := #[.int .u8 0, .int .u8 0]) ?_ 0 _ rfl; (with_reducible repeat (first | refine blk_drewN ?_ _ | refine blk_drew ?_ | refine blk_alloc ?_ _)); exact BK213.out) k_ hk)); (case aO => exact (by (with_reducible repeat (first | apply Kd.R_alloc | apply Kd.R_drewN | apply Kd.R_drew)); exact Kd.R_mono (Kd.R_far (p := ⟨gb213, 0, none⟩) (Kd.R_far (p := ⟨gb213, 1, none⟩) (Kd.R_far (p := ⟨gb213, 0, none⟩) (Kd.R_mono HO_212000.out (fun k_ hk => (⟨hk, hk.2⟩ : _ ∧ k_ ≠ gb213))) (fun _ hk => hk.2) (.int .u8 (bt a0 x5_17))) (fun _ hk => hk.2) (.int .u8 (bt a0 x5_17))) (fun _ hk => hk.2) (.int .u8 0)) (fun _ hk => hk.1.2))); (case aS => exact (below_size (by repeat (first | (with_reducible first | exact HB.out | apply below_alloc | apply pw_below_drewN | apply below_drew1 | refine below_set ?_ GE210.out | refine below_set ?_ GE211.out | refine below_set ?_ GE213.out) | exact HB.out)))); (case aL => have := LMc28.out; omega); intro v215 w38 ho hb hg hat; rw [← Ny214.out] at ho; have n0_ := Aside0.mk (blk_grown (g := gb210) (o := .cells #[.slice none 0 0] 49 (0, 0)) (by (with_reducible repeat (first | refine blk_drewN ?_ _ | refine blk_drew ?_ | refine blk_alloc ?_ _)); refine blk_far ?_ NB210_213.out _; (with_reducible repeat (first | refine blk_drewN ?_ _ | refine blk_drew ?_ | refine blk_alloc ?_ _)); refine blk_far ?_ NB210_213.out _; (with_reducible repeat (first | refine blk_drewN ?_ _ | refine blk_drew ?_ | refine blk_alloc ?_ _)); refine blk_far ?_ NB210_213.out _; (with_reducible repeat (first | refine blk_drewN ?_ _ | refine blk_drew ?_ | refine blk_alloc ?_ _)); exact BK210.out) hg (Kd.R_ne HO_212000.out BK210.out (by decide))); have n1_ := Aside0.mk (blk_grown (g := gb211) (o := .cells #[u212000] 49 (0, 0)) (by (with_reducible repeat (first | refine blk_drewN ?_ _ | refine blk_drew ?_ | refine blk_alloc ?_ _)); refine blk_far ?_ NB211_213.out _; (with_reducible repeat (first | refine blk_drewN ?_ _ | refine blk_drew ?_ | refine blk_alloc ?_ _)); refine blk_far ?_ NB211_213.out _; (with_reducible repeat (first | refine blk_drewN ?_ _ | refine blk_drew ?_ | refine blk_alloc ?_ _)); refine blk_far ?_ NB211_213.out _; (with_reducible repeat (first | refine blk_drewN ?_ _ | refine blk_drew ?_ | refine blk_alloc ?_ _)); exact BK211.out) hg (Kd.R_ne HO_212000.out BK211.out (by decide))); have n2_ := Aside0.mk (blk_grown (g := gb213) (o := .cells #[.int .u8 0, .int .u8 (bt a0 x5_17)] 83 (0, 0)) (by (with_reducible repeat (first | refine blk_drewN ?_ _ | refine blk_drew ?_ | refine blk_alloc ?_ _)); refine blk_put (cs := #[.int .u8 (bt a0 x5_17), .int .u8 (bt a0 x5_17)]) ?_ 0 _ rfl; (with_reducible repeat (first | refine blk_drewN ?_ _ | refine blk_drew ?_ | refine blk_alloc ?_ _)); refine blk_put (cs := #[.int .u8 (bt a0 x5_17), .int .u8 0]) ?_ 1 _ rfl; (with_reducible repeat (first | refine blk_drewN ?_ _ | refine blk_drew ?_ | refine blk_alloc ?_ _)); refine blk_put (cs := #[.int .u8 0, .int .u8 0]) ?_ 0 _ rfl; (with_reducible repeat (first | refine blk_drewN ?_ _ | refine blk_drew ?_ | refine blk_alloc ?_ _)); exact BK213.out) hg (Kd.R_away HO_212000.out (fun _ hk => hk.2))); have n3_ := Aside0.mk (hb); have n4_ := Aside0.mk (ho); clear BK210; clear BK211; clear BK213; clear HB; clear HO_212000; have BK210 := n0_; have BK211 := n1_; have BK213 := n2_; have HB := n3_; have HO216 := n4_; clear n0_ n1_ n2_ n3_ n4_; clear ho hb hg hat; obtain ⟨Ao39, co39, eo39⟩ := Kd.R_slice HO216.out; subst eo39; have hcz40_0 : w38.cell? ⟨gb211, 0, none⟩ = some (u212000) := (blk_cell BK211.out 0).trans rfl; have hfz40_0 := blk_frozen BK211.out 0))
                              go_roundg kj17
                              case measure => have := HK1.out; have := HJ14.out; have := HJ17.out; omega
                              case rel => exact ⟨(wrap64 (x5_17 + 1)), (y214), (.slice Ao39 y214.length co39), (by first | rfl | (simp; done) | (simp [*]; done)), H', ⟨by have := HK1.out; have := HJ14.out; have := HJ17.out; omega⟩, ⟨by (with_reducible repeat (first | apply Kd.R_alloc | apply Kd.R_drewN | apply Kd.R_drew)); exact Kd.R_mono (Kd.R_far (p := ⟨gb211, 0, none⟩) (Kd.R_types HO216.out BK211.out (by decide)) (fun _ hk => hk.2) (.slice Ao39 y214.length co39)) (fun _ hk => trivial)⟩, ⟨by (with_reducible repeat (first | refine blk_drewN ?_ _ | refine blk_drew ?_ | refine blk_alloc ?_ _)); refine blk_far ?_ NB210_211.out _; (with_reducible repeat (first | refine blk_drewN ?_ _ | refine blk_drew ?_ | refine blk_alloc ?_ _)); exact BK210.out⟩, ⟨by (with_reducible repeat (first | refine blk_drewN ?_ _ | refine blk_drew ?_ | refine blk_alloc ?_ _)); refine blk_put (cs := #[u212000]) ?_ 0 _ rfl; (with_reducible repeat (first | refine blk_drewN ?_ _ | refine blk_drew ?_ | refine blk_alloc ?_ _)); exact BK211.out⟩, ⟨by repeat (first | (with_reducible first | exact HB.out | apply below_alloc | apply pw_below_drewN | apply below_drew1 | refine below_set ?_ GE210.out | refine below_set ?_ GE211.out | refine below_set ?_ GE213.out) | exact HB.out)⟩⟩
                            · rw [if_neg c28] at H
                              exact absurd H (by simp)
                          · rw [if_neg c27] at H
                            have c27b0 : ((bt a0 x5_1) == 43) = false := beq_eq_false_iff_ne.mpr c27
                            have c27b1 : ((bt a0 x5_1) != 43) = true := bne_iff_ne.mpr c27
                            by_cases c41 : (bt a0 x5_1) = 45
                            · rw [if_pos c41] at H
                              have c41b0 : ((bt a0 x5_1) == 45) = true := beq_iff_eq.mpr c41
                              have c41b1 : ((bt a0 x5_1) != 45) = false := bne_eq_false_iff_eq.mpr c41
                              clear c41
                              by_cases c42 : x212000_1.length < 70368744177664
                              · rw [if_pos c42] at H
                                have LMc42 := Aside0.mk c42
                                clear c42
                                obtain ⟨y217, hy217⟩ : ∃ y_ : List (S83), y_ = (x212000_1 ++ [(⟨bt a0 x5_17, 0⟩ : S83)]) := ⟨_, rfl⟩
                                replace H : (impl_ParseCandidate.l0 kj17 a0 (wrap64 (x5_17 + 1)) y217) = some (r1, r2) := by first | (rw [hy217]; with_reducible exact H) | (have H2_ := (Option.bind_some _ _).symm.trans H; rw [hy217]; with_reducible exact H2_) | (have H2_ := (Option.bind_some _ _).symm.trans H; with_reducible exact H2_) | with_reducible exact H | (rw [hy217]; exact H) | exact H
                                have Ny217 := Aside0.mk hy217
                                clear hy217
                                have H' := Aside0.mk H
                                clear H
                                try go_wp2
                                have n0_ := Aside0.mk (Kd.R_drew HO_212000.out)
                                have n1_ := Aside0.mk (blk_drew BK210.out)
                                have n2_ := Aside0.mk (blk_drew BK211.out)
                                have n3_ := Aside0.mk (below_drew1 HB.out)
                                clear HO_212000
                                clear BK210
                                clear BK211
                                clear HB
                                have HO_212000 := n0_
                                have BK210 := n1_
                                have BK211 := n2_
                                have HB := n3_
                                clear n0_ n1_ n2_ n3_
                                have p25 : 0 ≤ (x5_17 : Int) := of_decide_eq_true (by first | (with_reducible assumption) | assumption)
                                have q25 : x5_17 < (a0.size : Int) := of_decide_eq_true (by first | (with_reducible assumption) | assumption)
                                have hx25 := bt_at a0 x5_17
                                replace p25 := eq_true p25
                                replace q25 := eq_true q25
                                have p26 : 0 ≤ (x5_17 : Int) := of_decide_eq_true (by first | (with_reducible assumption) | assumption)
                                have q26 : x5_17 < (a0.size : Int) := of_decide_eq_true (by first | (with_reducible assumption) | assumption)
                                have hx26 := bt_at a0 x5_17
                                replace p26 := eq_true p26
                                replace q26 := eq_true q26
                                refine start_ (n := 9) (S := fun w' => True) (ds := []) #[false, false, false, false, false, false, false, false, false] (by kernel_rfl) rfl rfl trivial (fun hHeld => ?_); refine with_tabW impl_ParseCandidate.tab12 impl_ParseCandidate.bits12 (fun HT_ HW_ => ?_)
                                generalize wc.drew = w43 at HO_212000 BK210 BK211 HB hHeld ⊢
                                refine pure_ (i := 0) (N := some 38) (v := ?_) (a' := ?_) #[true, false, false, false, false, false, false, false, false] rfl rfl (any_of HT_.out (by kernel_rfl)) (fun _ _ _ h => h) (Or.inl ⟨by rfl, ?_⟩) ?_ ?_
                                rotate_left
                                · intro w'
                                  go_simp
                                  with_reducible rfl
                                rotate_left
                                · simp only [Act.put, List.setIfInBounds_toArray, List.set_cons_zero, List.set_cons_succ, i64_w, i32_w]
                                  rfl
                                refine pure_ (i := 1) (N := some 39) (v := ?_) (a' := ?_) #[true, true, false, false, false, false, false, false, false] rfl rfl (any_of HT_.out (by kernel_rfl)) (fun _ _ _ h => h) (Or.inl ⟨by rfl, ?_⟩) ?_ ?_
                                rotate_left
                                · intro w'
                                  go_simp
                                  with_reducible rfl
                                rotate_left
                                · simp only [Act.put, List.setIfInBounds_toArray, List.set_cons_zero, List.set_cons_succ, i64_w, i32_w]
                                  rfl
                                refine pure_ (i := 3) (N := some 41) (v := ?_) (a' := ?_) #[true, true, false, true, false, false, false, false, false] rfl rfl (any_of HT_.out (by kernel_rfl)) (fun _ _ _ h => h) (Or.inl ⟨by rfl, ?_⟩) ?_ ?_
                                rotate_left
                                · intro w'
                                  go_simp
                                  with_reducible rfl
                                rotate_left
                                · simp only [Act.put, List.setIfInBounds_toArray, List.set_cons_zero, List.set_cons_succ, i64_w, i32_w]
                                  rfl
                                refine pure_ (i := 4) (N := some 42) (v := ?_) (a' := ?_) #[true, true, false, true, true, false, false, false, false] rfl rfl (any_of HT_.out (by kernel_rfl)) (fun _ _ _ h => h) (Or.inl ⟨by rfl, ?_⟩) ?_ ?_
                                rotate_left
                                · intro w'
                                  go_simp
                                  with_reducible rfl
                                rotate_left
                                · simp only [Act.put, List.setIfInBounds_toArray, List.set_cons_zero, List.set_cons_succ, i64_w, i32_w]
                                  rfl
                                refine take_ (i := 2) (N := some 40) (v := ?_) (a' := ?_) #[true, true, true, true, true, false, false, false, false] rfl rfl (take_ofW HT_.out HW_.out (by kernel_rfl)) (fun _ _ _ h => h) (Or.inl ⟨by rfl, ?_⟩) hHeld ?_ ?_
                                rotate_left
                                · intro w' _
                                  go_simp
                                  with_reducible rfl
                                rotate_left
                                · simp only [Act.put, List.setIfInBounds_toArray, List.set_cons_zero, List.set_cons_succ, i64_w, i32_w]
                                  rfl
                                refine take_ (i := 5) (N := some 43) (v := ?_) (a' := ?_) #[true, true, true, true, true, true, false, false, false] rfl rfl (take_ofW HT_.out HW_.out (by kernel_rfl)) (fun _ _ _ h => h) (Or.inl ⟨by rfl, ?_⟩) hHeld ?_ ?_
                                rotate_left
                                · intro w' _
                                  go_simp
                                  with_reducible rfl
                                rotate_left
                                · simp only [Act.put, List.setIfInBounds_toArray, List.set_cons_zero, List.set_cons_succ, i64_w, i32_w]
                                  rfl
                                refine pure_ (i := 6) (N := some 44) (v := ?_) (a' := ?_) #[true, true, true, true, true, true, true, false, false] rfl rfl (any_of HT_.out (by kernel_rfl)) (fun _ _ _ h => h) (Or.inl ⟨by rfl, ?_⟩) ?_ ?_
                                rotate_left
                                · intro w'
                                  go_simp
                                  with_reducible rfl
                                rotate_left
                                · simp only [Act.put, List.setIfInBounds_toArray, List.set_cons_zero, List.set_cons_succ, i64_w, i32_w]
                                  rfl
                                refine one_ (i := 7) (N := some 7) #[true, true, true, true, true, true, true, true, false] rfl rfl (one_of HT_.out (by kernel_rfl)) (by decide) (fun K hK => ?_)
                                refine box_step ?hg (N := 7) ?hd (cs := #[.int .u8 0, .int .u8 0]) (t := 83) ?hr ?_; (case hd => rfl); (case hg => rfl); (case hr => first | (go_simp; done) | (go_simp; rfl))
                                intro gb213 hg w44 hbox hb
                                have n0_ := Aside0.mk (Kd.R_below (Kd.R_elderB (by (with_reducible repeat (first | apply Kd.R_alloc | apply Kd.R_drewN | apply Kd.R_drew)); exact HO_212000.out) gb213 (Nat.le_of_eq hg.symm)) hb)
                                have n1_ := Aside0.mk (blk_below (g := gb210) (o := .cells #[.slice none 0 0] 49 (0, 0)) (by (with_reducible repeat (first | refine blk_drewN ?_ _ | refine blk_drew ?_ | refine blk_alloc ?_ _)); exact BK210.out) hb)
                                have n2_ := Aside0.mk (blk_below (g := gb211) (o := .cells #[u212000] 49 (0, 0)) (by (with_reducible repeat (first | refine blk_drewN ?_ _ | refine blk_drew ?_ | refine blk_alloc ?_ _)); exact BK211.out) hb)
                                have n3_ := Aside0.mk (below_step (by repeat (first | (with_reducible first | exact HB.out | apply below_alloc | apply pw_below_drewN | apply below_drew1 | refine below_set ?_ GE210.out | refine below_set ?_ GE211.out) | exact HB.out)) hb)
                                have n4_ := Aside0.mk (hbox)
                                have n5_ := Aside0.mk ((by rw [hg]; exact (below_size (by repeat (first | (with_reducible first | exact HB.out | apply below_alloc | apply pw_below_drewN | apply below_drew1 | refine below_set ?_ GE210.out | refine below_set ?_ GE211.out) | exact HB.out))) : w.heap.size ≤ gb213))
                                have n6_ := Aside0.mk ((by rw [hg]; exact (below_size (by repeat (first | (with_reducible first | exact HB.out | apply below_alloc | apply pw_below_drewN | apply below_drew1 | refine below_set ?_ GE210.out | refine below_set ?_ GE211.out) | exact HB.out))) : w.heap.size ≤ gb213))
                                have n7_ := Aside0.mk ((by rw [hg]; exact Nat.ne_of_lt (blk_lt (g := gb210) (o := .cells #[.slice none 0 0] 49 (0, 0)) (by (with_reducible repeat (first | refine blk_drewN ?_ _ | refine blk_drew ?_ | refine blk_alloc ?_ _)); exact BK210.out)) : gb210 ≠ gb213))
                                have n8_ := Aside0.mk ((by rw [hg]; exact Nat.ne_of_gt (blk_lt (g := gb210) (o := .cells #[.slice none 0 0] 49 (0, 0)) (by (with_reducible repeat (first | refine blk_drewN ?_ _ | refine blk_drew ?_ | refine blk_alloc ?_ _)); exact BK210.out)) : gb213 ≠ gb210))
                                have n9_ := Aside0.mk ((by rw [hg]; exact Nat.ne_of_lt (blk_lt (g := gb211) (o := .cells #[u212000] 49 (0, 0)) (by (with_reducible repeat (first | refine blk_drewN ?_ _ | refine blk_drew ?_ | refine blk_alloc ?_ _)); exact BK211.out)) : gb211 ≠ gb213))
                                have n10_ := Aside0.mk ((by rw [hg]; exact Nat.ne_of_gt (blk_lt (g := gb211) (o := .cells #[u212000] 49 (0, 0)) (by (with_reducible repeat (first | refine blk_drewN ?_ _ | refine blk_drew ?_ | refine blk_alloc ?_ _)); exact BK211.out)) : gb213 ≠ gb211))
                                clear HO_212000
                                clear BK210
                                clear BK211
                                clear HB
                                have HO_212000 := n0_
                                have BK210 := n1_
                                have BK211 := n2_
                                have HB := n3_
                                have BK213 := n4_
                                have GW213 := n5_
                                have GE213 := n6_
                                have NB210_213 := n7_
                                have NB213_210 := n8_
                                have NB211_213 := n9_
                                have NB213_211 := n10_
                                clear n0_ n1_ n2_ n3_ n4_ n5_ n6_ n7_ n8_ n9_ n10_
                                clear hb hbox hg
                                refine hK.out _ _ trivial (fun hHeld => ?_)
                                clear hK K
                                refine norm_ (a' := ?_) ?_ ?_
                                rotate_left
                                · show Act.put _ (some 7) _ = _
                                  simp only [Act.put, List.setIfInBounds_toArray, List.set_cons_zero, List.set_cons_succ, i64_w, i32_w]
                                  rfl
                                refine one_ (i := 8) (N := none) #[true, true, true, true, true, true, true, true, true] rfl rfl (one_of HT_.out (by kernel_rfl)) (by decide) (fun K hK => ?_)
                                have hs45 : w44.cell? ⟨gb213, 0, none⟩ = some (.int .u8 0) := (blk_cell BK213.out 0).trans rfl
                                have hfs45 := blk_frozen BK213.out 0
                                have hns45_0 := NB210_213.out
                                have hns45_1 := NB211_213.out
                                have hms45_0 := NB213_210.out
                                have hms45_1 := NB213_211.out
                                have hs46 : w44.cell? ⟨gb213, 1, none⟩ = some (.int .u8 0) := (blk_cell BK213.out 1).trans rfl
                                have hfs46 := blk_frozen BK213.out 1
                                have hns46_0 := NB210_213.out
                                have hns46_1 := NB211_213.out
                                have hms46_0 := NB213_210.out
                                have hms46_1 := NB213_211.out
                                refine skip_ (w1 := ?_) (by rfl) rfl ?_ ?_
                                rotate_left
                                · go_simp
                                  rfl
                                refine hK.out _ _ trivial (fun hHeld => ?_)
                                clear hK K
                                refine done_ (done_of HT_.out (by kernel_rfl)) ?_
                                have hnb47 := NB213_210.out
                                have hnc47 := NB210_213.out
                                have hnb48 := NB213_211.out
                                have hnc48 := NB211_213.out
                                have hcz49_0 : w44.cell? ⟨gb213, 0, none⟩ = some (.int .u8 0) := (blk_cell BK213.out 0).trans rfl
                                have hcz49_1 : w44.cell? ⟨gb213, 1, none⟩ = some (.int .u8 0) := (blk_cell BK213.out 1).trans rfl
                                have hfz49_0 := blk_frozen BK213.out 0
                                have hfz49_1 := blk_frozen BK213.out 1
                                have hnb50 := NB211_210.out
                                have hnc50 := NB210_211.out
                                have hcz51_0 : w44.cell? ⟨gb211, 0, none⟩ = some (u212000) := (blk_cell BK211.out 0).trans rfl
                                have hfz51_0 := blk_frozen BK211.out 0
                                (try have zl_ := Aside0.mk (blk_set (blk_set (blk_set BK213.out 0 (.int .u8 (bt a0 x5_17))) 1 (.int .u8 (bt a0 x5_17))) 1 (.int .u8 0)))
                                (try have hczl_0 : (((w44.setCell ⟨gb213, 0, none⟩ (.int .u8 (bt a0 x5_17))).setCell ⟨gb213, 1, none⟩ (.int .u8 (bt a0 x5_17))).setCell ⟨gb213, 1, none⟩ (.int .u8 0)).cell? ⟨gb213, 0, none⟩ = some (.int .u8 (bt a0 x5_17)) := (blk_cell zl_.out 0).trans rfl)
                                (try have hczl_1 : (((w44.setCell ⟨gb213, 0, none⟩ (.int .u8 (bt a0 x5_17))).setCell ⟨gb213, 1, none⟩ (.int .u8 (bt a0 x5_17))).setCell ⟨gb213, 1, none⟩ (.int .u8 0)).cell? ⟨gb213, 1, none⟩ = some (.int .u8 0) := (blk_cell zl_.out 1).trans rfl)
                                (try have hczm211_0 : (((w44.setCell ⟨gb213, 0, none⟩ (.int .u8 (bt a0 x5_17))).setCell ⟨gb213, 1, none⟩ (.int .u8 (bt a0 x5_17))).setCell ⟨gb213, 1, none⟩ (.int .u8 0)).cell? ⟨gb211, 0, none⟩ = some (u212000) := (blk_cell (blk_far (p := ⟨gb213, 1, none⟩) (blk_far (p := ⟨gb213, 1, none⟩) (blk_far (p := ⟨gb213, 0, none⟩) BK211.out NB211_213.out (.int .u8 (bt a0 x5_17))) NB211_213.out (.int .u8 (bt a0 x5_17))) NB211_213.out (.int .u8 0)) 0).trans rfl)
                                try go_wp2_with (first | ((with_reducible refine gate_builtin (b := .append) (xs := #[.tmp 63, .tmp 65]) rfl ?_); at_builtin; refine Kd.R_append k83 (w0 := w) w.heap.size rfl (.tmp 63) (.tmp 65) 47 83 (.agg #[(.int .u8 0), (.int .u8 0)]) 2 rfl Try.underlying47 info83 rfl (by decide) (by omega) u212000 x212000_1 (⟨bt a0 x5_17, 0⟩ : S83) [.int .u8 (bt a0 x5_17), .int .u8 0] (fun k_ => k_ ≠ gb213) (fun _ => False) rfl (by first | (go_simp; done) | (go_simp; rfl)) ?aP (fun _ hk => hk.elim) ?aF ?aO ?aB ?aS ?aL ?_; (case aP => exact k83_mkM _ _ _ (⟨bt a0 x5_17, 0⟩ : S83)); (case aB => exact (by repeat (first | (with_reducible first | exact HB.out | apply below_alloc | apply pw_below_drewN | apply below_drew1 | refine below_set ?_ GE210.out | refine below_set ?_ GE211.out | refine below_set ?_ GE213.out) | exact HB.out))); (case aF => exact (fun k_ hk => Kd.freshB (g := gb213) (o := .cells #[.int .u8 (bt a0 x5_17), .int .u8 0] 83 (0, 0)) (by (with_reducible repeat (first | refine blk_drewN ?_ _ | refine blk_drew ?_ | refine blk_alloc ?_ _)); refine blk_put (cs := #[.int .u8 (bt a0 x5_17), .int .u8 (bt a0 x5_17)]) ?_ 1 _ rfl; (with_reducible repeat (first | refine blk_drewN ?_ _ | refine blk_drew ?_ | refine blk_alloc ?_ _)); refine blk_put (cs := #[.int .u8 (bt a0 x5_17), .int .u8 0]) ?_ 1 _ rfl; (with_reducible repeat (first | refine blk_drewN ?_ _ | refine blk_drew ?_ | refine blk_alloc ?_ _)); refine blk_put (cs := #[.int .u8 0, .int .u8 0]) ?_ 0 _ rfl; (with_reducible repeat (first | refine blk_drewN ?_ _ | refine blk_drew ?_ | refine blk_alloc ?_ _)); exact BK213.out) k_ hk)); (case aO => exact (by (with_reducible repeat (first | apply Kd.R_alloc | apply Kd.R_drewN | apply Kd.R_drew)); exact Kd.R_mono (Kd.R_far (p := ⟨gb213, 1, none⟩) (Kd.R_far (p := ⟨gb213, 1, none⟩) (Kd.R_far (p := ⟨gb213, 0, none⟩) (Kd.R_mono HO_212000.out (fun k_ hk => (⟨hk, hk.2⟩ : _ ∧ k_ ≠ gb213))) (fun _ hk => hk.2) (.int .u8 (bt a0 x5_17))) (fun _ hk => hk.2) (.int .u8 (bt a0 x5_17))) (fun _ hk => hk.2) (.int .u8 0)) (fun _ hk => hk.1.2))); (case aS => exact (below_size (by repeat (first | (with_reducible first | exact HB.out | apply below_alloc | apply pw_below_drewN | apply below_drew1 | refine below_set ?_ GE210.out | refine below_set ?_ GE211.out | refine below_set ?_ GE213.out) | exact HB.out)))); (case aL => have := LMc42.out; omega); intro v218 w52 ho hb hg hat; rw [← Ny217.out] at ho; have n0_ := Aside0.mk (blk_grown (g := gb210) (o := .cells #[.slice none 0 0] 49 (0, 0)) (by (with_reducible repeat (first | refine blk_drewN ?_ _ | refine blk_drew ?_ | refine blk_alloc ?_ _)); refine blk_far ?_ NB210_213.out _; (with_reducible repeat (first | refine blk_drewN ?_ _ | refine blk_drew ?_ | refine blk_alloc ?_ _)); refine blk_far ?_ NB210_213.out _; (with_reducible repeat (first | refine blk_drewN ?_ _ | refine blk_drew ?_ | refine blk_alloc ?_ _)); refine blk_far ?_ NB210_213.out _; (with_reducible repeat (first | refine blk_drewN ?_ _ | refine blk_drew ?_ | refine blk_alloc ?_ _)); exact BK210.out) hg (Kd.R_ne HO_212000.out BK210.out (by decide))); have n1_ := Aside0.mk (blk_grown (g := gb211) (o := .cells #[u212000] 49 (0, 0)) (by (with_reducible repeat (first | refine blk_drewN ?_ _ | refine blk_drew ?_ | refine blk_alloc ?_ _)); refine blk_far ?_ NB211_213.out _; (with_reducible repeat (first | refine blk_drewN ?_ _ | refine blk_drew ?_ | refine blk_alloc ?_ _)); refine blk_far ?_ NB211_213.out _; (with_reducible repeat (first | refine blk_drewN ?_ _ | refine blk_drew ?_ | refine blk_alloc ?_ _)); refine blk_far ?_ NB211_213.out _; (with_reducible repeat (first | refine blk_drewN ?_ _ | refine blk_drew ?_ | refine blk_alloc ?_ _)); exact BK211.out) hg (Kd.R_ne HO_212000.out BK211.out (by decide))); have n2_ := Aside0.mk (blk_grown (g := gb213) (o := .cells #[.int .u8 (bt a0 x5_17), .int .u8 0] 83 (0, 0)) (by (with_reducible repeat (first | refine blk_drewN ?_ _ | refine blk_drew ?_ | refine blk_alloc ?_ _)); refine blk_put (cs := #[.int .u8 (bt a0 x5_17), .int .u8 (bt a0 x5_17)]) ?_ 1 _ rfl; (with_reducible repeat (first | refine blk_drewN ?_ _ | refine blk_drew ?_ | refine blk_alloc ?_ _)); refine blk_put (cs := #[.int .u8 (bt a0 x5_17), .int .u8 0]) ?_ 1 _ rfl; (with_reducible repeat (first | refine blk_drewN ?_ _ | refine blk_drew ?_ | refine blk_alloc ?_ _)); refine blk_put (cs := #[.int .u8 0, .int .u8 0]) ?_ 0 _ rfl; (with_reducible repeat (first | refine blk_drewN ?_ _ | refine blk_drew ?_ | refine blk_alloc ?_ _)); exact BK213.out) hg (Kd.R_away HO_212000.out (fun _ hk => hk.2))); have n3_ := Aside0.mk (hb); have n4_ := Aside0.mk (ho); clear BK210; clear BK211; clear BK213; clear HB; clear HO_212000; have BK210 := n0_; have BK211 := n1_; have BK213 := n2_; have HB := n3_; have HO219 := n4_; clear n0_ n1_ n2_ n3_ n4_; clear ho hb hg hat; obtain ⟨Ao53, co53, eo53⟩ := Kd.R_slice HO219.out; subst eo53; have hcz54_0 : w52.cell? ⟨gb211, 0, none⟩ = some (u212000) := (blk_cell BK211.out 0).trans rfl; have hfz54_0 := blk_frozen BK211.out 0))
                                go_roundg kj17
                                case measure => have := HK1.out; have := HJ14.out; have := HJ17.out; omega
                                case rel => exact ⟨(wrap64 (x5_17 + 1)), (y217), (.slice Ao53 y217.length co53), (by first | rfl | (simp; done) | (simp [*]; done)), H', ⟨by have := HK1.out; have := HJ14.out; have := HJ17.out; omega⟩, ⟨by (with_reducible repeat (first | apply Kd.R_alloc | apply Kd.R_drewN | apply Kd.R_drew)); exact Kd.R_mono (Kd.R_far (p := ⟨gb211, 0, none⟩) (Kd.R_types HO219.out BK211.out (by decide)) (fun _ hk => hk.2) (.slice Ao53 y217.length co53)) (fun _ hk => trivial)⟩, ⟨by (with_reducible repeat (first | refine blk_drewN ?_ _ | refine blk_drew ?_ | refine blk_alloc ?_ _)); refine blk_far ?_ NB210_211.out _; (with_reducible repeat (first | refine blk_drewN ?_ _ | refine blk_drew ?_ | refine blk_alloc ?_ _)); exact BK210.out⟩, ⟨by (with_reducible repeat (first | refine blk_drewN ?_ _ | refine blk_drew ?_ | refine blk_alloc ?_ _)); refine blk_put (cs := #[u212000]) ?_ 0 _ rfl; (with_reducible repeat (first | refine blk_drewN ?_ _ | refine blk_drew ?_ | refine blk_alloc ?_ _)); exact BK211.out⟩, ⟨by repeat (first | (with_reducible first | exact HB.out | apply below_alloc | apply pw_below_drewN | apply below_drew1 | refine below_set ?_ GE210.out | refine below_set ?_ GE211.out | refine below_set ?_ GE213.out) | exact HB.out)⟩⟩
                              · rw [if_neg c42] at H
                                exact absurd H (by simp)
                            · rw [if_neg c41] at H
                              have c41b0 : ((bt a0 x5_1) == 45) = false := beq_eq_false_iff_ne.mpr c41
                              have c41b1 : ((bt a0 x5_1) != 45) = true := bne_iff_ne.mpr c41
                              by_cases c55 : (bt a0 x5_1) = 42
                              · rw [if_pos c55] at H
                                have c55b0 : ((bt a0 x5_1) == 42) = true := beq_iff_eq.mpr c55
                                have c55b1 : ((bt a0 x5_1) != 42) = false := bne_eq_false_iff_eq.mpr c55
                                clear c55
                                replace H := Option.bind_eq_some_iff.mp H
                                obtain ⟨⟨t220, t221⟩, A570, H⟩ := H
                                replace H : (if x212000_1.length < 70368744177664 then (impl_ParseCandidate.l0 kj17 a0 (wrap64 (x5_17 + 1)) (x212000_1 ++ [(⟨bt a0 x5_17, t220⟩ : S83)])) else (none)) = some (r1, r2) := H
                                have A57 := Aside0.mk A570
                                clear A570
                                by_cases c58 : x212000_1.length < 70368744177664
                                · rw [if_pos c58] at H
                                  have LMc58 := Aside0.mk c58
                                  clear c58
                                  obtain ⟨y222, hy222⟩ : ∃ y_ : List (S83), y_ = (x212000_1 ++ [(⟨bt a0 x5_17, t220⟩ : S83)]) := ⟨_, rfl⟩
                                  replace H : (impl_ParseCandidate.l0 kj17 a0 (wrap64 (x5_17 + 1)) y222) = some (r1, r2) := by first | (rw [hy222]; with_reducible exact H) | (have H2_ := (Option.bind_some _ _).symm.trans H; rw [hy222]; with_reducible exact H2_) | (have H2_ := (Option.bind_some _ _).symm.trans H; with_reducible exact H2_) | with_reducible exact H | (rw [hy222]; exact H) | exact H
                                  have Ny222 := Aside0.mk hy222
                                  clear hy222
                                  have H' := Aside0.mk H
                                  clear H
                                  try go_wp2
                                  have n0_ := Aside0.mk (Kd.R_drew HO_212000.out)
                                  have n1_ := Aside0.mk (blk_drew BK210.out)
                                  have n2_ := Aside0.mk (blk_drew BK211.out)
                                  have n3_ := Aside0.mk (below_drew1 HB.out)
                                  clear HO_212000
                                  clear BK210
                                  clear BK211
                                  clear HB
                                  have HO_212000 := n0_
                                  have BK210 := n1_
                                  have BK211 := n2_
                                  have HB := n3_
                                  clear n0_ n1_ n2_ n3_
                                  have p25 : 0 ≤ (x5_17 : Int) := of_decide_eq_true (by first | (with_reducible assumption) | assumption)
                                  have q25 : x5_17 < (a0.size : Int) := of_decide_eq_true (by first | (with_reducible assumption) | assumption)
                                  have hx25 := bt_at a0 x5_17
                                  replace p25 := eq_true p25
                                  replace q25 := eq_true q25
                                  have p26 : 0 ≤ (x5_17 : Int) := of_decide_eq_true (by first | (with_reducible assumption) | assumption)
                                  have q26 : x5_17 < (a0.size : Int) := of_decide_eq_true (by first | (with_reducible assumption) | assumption)
                                  have hx26 := bt_at a0 x5_17
                                  replace p26 := eq_true p26
                                  replace q26 := eq_true q26
                                  refine start_ (n := 9) (S := fun w' => True) (ds := []) #[false, false, false, false, false, false, false, false, false] (by kernel_rfl) rfl rfl trivial (fun hHeld => ?_); refine with_tabW impl_ParseCandidate.tab12 impl_ParseCandidate.bits12 (fun HT_ HW_ => ?_)
                                  generalize wc.drew = w59 at HO_212000 BK210 BK211 HB hHeld ⊢
                                  refine pure_ (i := 0) (N := some 38) (v := ?_) (a' := ?_) #[true, false, false, false, false, false, false, false, false] rfl rfl (any_of HT_.out (by kernel_rfl)) (fun _ _ _ h => h) (Or.inl ⟨by rfl, ?_⟩) ?_ ?_
                                  rotate_left
                                  · intro w'
                                    go_simp
                                    with_reducible rfl
                                  rotate_left
                                  · simp only [Act.put, List.setIfInBounds_toArray, List.set_cons_zero, List.set_cons_succ, i64_w, i32_w]
                                    rfl
                                  refine pure_ (i := 1) (N := some 39) (v := ?_) (a' := ?_) #[true, true, false, false, false, false, false, false, false] rfl rfl (any_of HT_.out (by kernel_rfl)) (fun _ _ _ h => h) (Or.inl ⟨by rfl, ?_⟩) ?_ ?_
                                  rotate_left
                                  · intro w'
                                    go_simp
                                    with_reducible rfl
                                  rotate_left
                                  · simp only [Act.put, List.setIfInBounds_toArray, List.set_cons_zero, List.set_cons_succ, i64_w, i32_w]
                                    rfl
                                  refine pure_ (i := 3) (N := some 41) (v := ?_) (a' := ?_) #[true, true, false, true, false, false, false, false, false] rfl rfl (any_of HT_.out (by kernel_rfl)) (fun _ _ _ h => h) (Or.inl ⟨by rfl, ?_⟩) ?_ ?_
                                  rotate_left
                                  · intro w'
                                    go_simp
                                    with_reducible rfl
                                  rotate_left
                                  · simp only [Act.put, List.setIfInBounds_toArray, List.set_cons_zero, List.set_cons_succ, i64_w, i32_w]
                                    rfl
                                  refine pure_ (i := 4) (N := some 42) (v := ?_) (a' := ?_) #[true, true, false, true, true, false, false, false, false] rfl rfl (any_of HT_.out (by kernel_rfl)) (fun _ _ _ h => h) (Or.inl ⟨by rfl, ?_⟩) ?_ ?_
                                  rotate_left
                                  · intro w'
                                    go_simp
                                    with_reducible rfl
                                  rotate_left
                                  · simp only [Act.put, List.setIfInBounds_toArray, List.set_cons_zero, List.set_cons_succ, i64_w, i32_w]
                                    rfl
                                  refine take_ (i := 2) (N := some 40) (v := ?_) (a' := ?_) #[true, true, true, true, true, false, false, false, false] rfl rfl (take_ofW HT_.out HW_.out (by kernel_rfl)) (fun _ _ _ h => h) (Or.inl ⟨by rfl, ?_⟩) hHeld ?_ ?_
                                  rotate_left
                                  · intro w' _
                                    go_simp
                                    with_reducible rfl
                                  rotate_left
                                  · simp only [Act.put, List.setIfInBounds_toArray, List.set_cons_zero, List.set_cons_succ, i64_w, i32_w]
                                    rfl
                                  refine take_ (i := 5) (N := some 43) (v := ?_) (a' := ?_) #[true, true, true, true, true, true, false, false, false] rfl rfl (take_ofW HT_.out HW_.out (by kernel_rfl)) (fun _ _ _ h => h) (Or.inl ⟨by rfl, ?_⟩) hHeld ?_ ?_
                                  rotate_left
                                  · intro w' _
                                    go_simp
                                    with_reducible rfl
                                  rotate_left
                                  · simp only [Act.put, List.setIfInBounds_toArray, List.set_cons_zero, List.set_cons_succ, i64_w, i32_w]
                                    rfl
                                  refine pure_ (i := 6) (N := some 44) (v := ?_) (a' := ?_) #[true, true, true, true, true, true, true, false, false] rfl rfl (any_of HT_.out (by kernel_rfl)) (fun _ _ _ h => h) (Or.inl ⟨by rfl, ?_⟩) ?_ ?_
                                  rotate_left
                                  · intro w'
                                    go_simp
                                    with_reducible rfl
                                  rotate_left
                                  · simp only [Act.put, List.setIfInBounds_toArray, List.set_cons_zero, List.set_cons_succ, i64_w, i32_w]
                                    rfl
                                  refine one_ (i := 7) (N := some 7) #[true, true, true, true, true, true, true, true, false] rfl rfl (one_of HT_.out (by kernel_rfl)) (by decide) (fun K hK => ?_)
                                  refine box_step ?hg (N := 7) ?hd (cs := #[.int .u8 0, .int .u8 0]) (t := 83) ?hr ?_; (case hd => rfl); (case hg => rfl); (case hr => first | (go_simp; done) | (go_simp; rfl))
                                  intro gb213 hg w60 hbox hb
                                  have n0_ := Aside0.mk (Kd.R_below (Kd.R_elderB (by (with_reducible repeat (first | apply Kd.R_alloc | apply Kd.R_drewN | apply Kd.R_drew)); exact HO_212000.out) gb213 (Nat.le_of_eq hg.symm)) hb)
                                  have n1_ := Aside0.mk (blk_below (g := gb210) (o := .cells #[.slice none 0 0] 49 (0, 0)) (by (with_reducible repeat (first | refine blk_drewN ?_ _ | refine blk_drew ?_ | refine blk_alloc ?_ _)); exact BK210.out) hb)
                                  have n2_ := Aside0.mk (blk_below (g := gb211) (o := .cells #[u212000] 49 (0, 0)) (by (with_reducible repeat (first | refine blk_drewN ?_ _ | refine blk_drew ?_ | refine blk_alloc ?_ _)); exact BK211.out) hb)
                                  have n3_ := Aside0.mk (below_step (by repeat (first | (with_reducible first | exact HB.out | apply below_alloc | apply pw_below_drewN | apply below_drew1 | refine below_set ?_ GE210.out | refine below_set ?_ GE211.out) | exact HB.out)) hb)
                                  have n4_ := Aside0.mk (hbox)
                                  have n5_ := Aside0.mk ((by rw [hg]; exact (below_size (by repeat (first | (with_reducible first | exact HB.out | apply below_alloc | apply pw_below_drewN | apply below_drew1 | refine below_set ?_ GE210.out | refine below_set ?_ GE211.out) | exact HB.out))) : w.heap.size ≤ gb213))
                                  have n6_ := Aside0.mk ((by rw [hg]; exact (below_size (by repeat (first | (with_reducible first | exact HB.out | apply below_alloc | apply pw_below_drewN | apply below_drew1 | refine below_set ?_ GE210.out | refine below_set ?_ GE211.out) | exact HB.out))) : w.heap.size ≤ gb213))
                                  have n7_ := Aside0.mk ((by rw [hg]; exact Nat.ne_of_lt (blk_lt (g := gb210) (o := .cells #[.slice none 0 0] 49 (0, 0)) (by (with_reducible repeat (first | refine blk_drewN ?_ _ | refine blk_drew ?_ | refine blk_alloc ?_ _)); exact BK210.out)) : gb210 ≠ gb213))
                                  have n8_ := Aside0.mk ((by rw [hg]; exact Nat.ne_of_gt (blk_lt (g := gb210) (o := .cells #[.slice none 0 0] 49 (0, 0)) (by (with_reducible repeat (first | refine blk_drewN ?_ _ | refine blk_drew ?_ | refine blk_alloc ?_ _)); exact BK210.out)) : gb213 ≠ gb210))
                                  have n9_ := Aside0.mk ((by rw [hg]; exact Nat.ne_of_lt (blk_lt (g := gb211) (o := .cells #[u212000] 49 (0, 0)) (by (with_reducible repeat (first | refine blk_drewN ?_ _ | refine blk_drew ?_ | refine blk_alloc ?_ _)); exact BK211.out)) : gb211 ≠ gb213))
                                  have n10_ := Aside0.mk ((by rw [hg]; exact Nat.ne_of_gt (blk_lt (g := gb211) (o := .cells #[u212000] 49 (0, 0)) (by (with_reducible repeat (first | refine blk_drewN ?_ _ | refine blk_drew ?_ | refine blk_alloc ?_ _)); exact BK211.out)) : gb213 ≠ gb211))
                                  clear HO_212000
                                  clear BK210
                                  clear BK211
                                  clear HB
                                  have HO_212000 := n0_
                                  have BK210 := n1_
                                  have BK211 := n2_
                                  have HB := n3_
                                  have BK213 := n4_
                                  have GW213 := n5_
                                  have GE213 := n6_
                                  have NB210_213 := n7_
                                  have NB213_210 := n8_
                                  have NB211_213 := n9_
                                  have NB213_211 := n10_
                                  clear n0_ n1_ n2_ n3_ n4_ n5_ n6_ n7_ n8_ n9_ n10_
                                  clear hb hbox hg
                                  refine hK.out _ _ trivial (fun hHeld => ?_)
                                  clear hK K
                                  refine norm_ (a' := ?_) ?_ ?_
                                  rotate_left
                                  · show Act.put _ (some 7) _ = _
                                    simp only [Act.put, List.setIfInBounds_toArray, List.set_cons_zero, List.set_cons_succ, i64_w, i32_w]
                                    rfl
                                  refine one_ (i := 8) (N := none) #[true, true, true, true, true, true, true, true, true] rfl rfl (one_of HT_.out (by kernel_rfl)) (by decide) (fun K hK => ?_)
                                  have hs61 : w60.cell? ⟨gb213, 0, none⟩ = some (.int .u8 0) := (blk_cell BK213.out 0).trans rfl
                                  have hfs61 := blk_frozen BK213.out 0
                                  have hns61_0 := NB210_213.out
                                  have hns61_1 := NB211_213.out
                                  have hms61_0 := NB213_210.out
                                  have hms61_1 := NB213_211.out
                                  have hs62 : w60.cell? ⟨gb213, 1, none⟩ = some (.int .u8 0) := (blk_cell BK213.out 1).trans rfl
                                  have hfs62 := blk_frozen BK213.out 1
                                  have hns62_0 := NB210_213.out
                                  have hns62_1 := NB211_213.out
                                  have hms62_0 := NB213_210.out
                                  have hms62_1 := NB213_211.out
                                  refine skip_ (w1 := ?_) (by rfl) rfl ?_ ?_
                                  rotate_left
                                  · go_simp
                                    rfl
                                  refine hK.out _ _ trivial (fun hHeld => ?_)
                                  clear hK K
                                  refine done_ (done_of HT_.out (by kernel_rfl)) ?_
                                  have p56 : 0 ≤ (x5_17 : Int) := of_decide_eq_true (by first | (with_reducible assumption) | assumption)
                                  have q56 : x5_17 < (a0.size : Int) := of_decide_eq_true (by first | (with_reducible assumption) | assumption)
                                  have hx56 := bt_at a0 x5_17
                                  replace p56 := eq_true p56
                                  replace q56 := eq_true q56
                                  try go_wp2_with (first | ((with_reducible refine gate_callee (f := 88) rfl ?_); refine goesL_ (some 58) rfl rfl Try.func88 (by kernel_rfl) rfl #[.int .u8 (bt a0 x5_17)] rfl (by (try simp only [List.map_toArray, List.map_cons, List.map_nil]); first | done | rfl | (simp only [List.length_drop, List.length_take]; rfl)) ?_; (with_reducible refine (impl_SwapVoice.calls (bt a0 x5_17) t220 t221 _ A57.out).mono ?_); rintro e w' ⟨rfl, ⟨nd, rfl⟩⟩; refine ⟨_, rfl, ?_⟩; have hnb63 := NB213_210.out; have hnc63 := NB210_213.out; have hnb64 := NB213_211.out; have hnc64 := NB211_213.out; have hcz65_0 : w60.cell? ⟨gb213, 0, none⟩ = some (.int .u8 0) := (blk_cell BK213.out 0).trans rfl; have hcz65_1 : w60.cell? ⟨gb213, 1, none⟩ = some (.int .u8 0) := (blk_cell BK213.out 1).trans rfl; have hfz65_0 := blk_frozen BK213.out 0; have hfz65_1 := blk_frozen BK213.out 1; have hnb66 := NB211_210.out; have hnc66 := NB210_211.out; have hcz67_0 : w60.cell? ⟨gb211, 0, none⟩ = some (u212000) := (blk_cell BK211.out 0).trans rfl; have hfz67_0 := blk_frozen BK211.out 0; (try have zl_ := Aside0.mk (blk_set (blk_drewN (blk_set (blk_set BK213.out 0 (.int .u8 ((bt a0 x5_17)))) 1 (.int .u8 ((bt a0 x5_17)))) nd) 1 (.int .u8 (t220)))); (try have hczl_0 : ((((w60.setCell ⟨gb213, 0, none⟩ (.int .u8 ((bt a0 x5_17)))).setCell ⟨gb213, 1, none⟩ (.int .u8 ((bt a0 x5_17)))).drewN nd).setCell ⟨gb213, 1, none⟩ (.int .u8 (t220))).cell? ⟨gb213, 0, none⟩ = some (.int .u8 ((bt a0 x5_17))) := (blk_cell zl_.out 0).trans rfl); (try have hczl_1 : ((((w60.setCell ⟨gb213, 0, none⟩ (.int .u8 ((bt a0 x5_17)))).setCell ⟨gb213, 1, none⟩ (.int .u8 ((bt a0 x5_17)))).drewN nd).setCell ⟨gb213, 1, none⟩ (.int .u8 (t220))).cell? ⟨gb213, 1, none⟩ = some (.int .u8 (t220)) := (blk_cell zl_.out 1).trans rfl); (try have hczm211_0 : ((((w60.setCell ⟨gb213, 0, none⟩ (.int .u8 ((bt a0 x5_17)))).setCell ⟨gb213, 1, none⟩ (.int .u8 ((bt a0 x5_17)))).drewN nd).setCell ⟨gb213, 1, none⟩ (.int .u8 (t220))).cell? ⟨gb211, 0, none⟩ = some (u212000) := (blk_cell (blk_far (p := ⟨gb213, 1, none⟩) (blk_drewN (blk_far (p := ⟨gb213, 1, none⟩) (blk_far (p := ⟨gb213, 0, none⟩) BK211.out NB211_213.out (.int .u8 ((bt a0 x5_17)))) NB211_213.out (.int .u8 ((bt a0 x5_17)))) nd) NB211_213.out (.int .u8 (t220))) 0).trans rfl)) | ((with_reducible refine gate_builtin (b := .append) (xs := #[.tmp 63, .tmp 65]) rfl ?_); at_builtin; refine Kd.R_append k83 (w0 := w) w.heap.size rfl (.tmp 63) (.tmp 65) 47 83 (.agg #[(.int .u8 0), (.int .u8 0)]) 2 rfl Try.underlying47 info83 rfl (by decide) (by omega) u212000 x212000_1 (⟨bt a0 x5_17, t220⟩ : S83) [.int .u8 (bt a0 x5_17), .int .u8 t220] (fun k_ => k_ ≠ gb213) (fun _ => False) rfl (by first | (go_simp; done) | (go_simp; rfl)) ?aP (fun _ hk => hk.elim) ?aF ?aO ?aB ?aS ?aL ?_; (case aP => exact k83_mkM _ _ _ (⟨bt a0 x5_17, t220⟩ : S83)); (case aB => exact (by repeat (first | (with_reducible first | exact HB.out | apply below_alloc | apply pw_below_drewN | apply below_drew1 | refine below_set ?_ GE210.out | refine below_set ?_ GE211.out | refine below_set ?_ GE213.out) | exact HB.out))); (case aF => exact (fun k_ hk => Kd.freshB (g := gb213) (o := .cells #[.int .u8 (bt a0 x5_17), .int .u8 t220] 83 (0, 0)) (by (with_reducible repeat (first | refine blk_drewN ?_ _ | refine blk_drew ?_ | refine blk_alloc ?_ _)); refine blk_put (cs := #[.int .u8 (bt a0 x5_17), .int .u8 (bt a0 x5_17)]) ?_ 1 _ rfl; (with_reducible repeat (first | refine blk_drewN ?_ _ | refine blk_drew ?_ | refine blk_alloc ?_ _)); refine blk_put (cs := #[.int .u8 (bt a0 x5_17), .int .u8 0]) ?_ 1 _ rfl; (with_reducible repeat (first | refine blk_drewN ?_ _ | refine blk_drew ?_ | refine blk_alloc ?_ _)); refine blk_put (cs := #[.int .u8 0, .int .u8 0]) ?_ 0 _ rfl; (with_reducible repeat (first | refine blk_drewN ?_ _ | refine blk_drew ?_ | refine blk_alloc ?_ _)); exact BK213.out) k_ hk)); (case aO => exact (by (with_reducible repeat (first | apply Kd.R_alloc | apply Kd.R_drewN | apply Kd.R_drew)); exact Kd.R_mono (Kd.R_far (p := ⟨gb213, 1, none⟩) (Kd.R_far (p := ⟨gb213, 1, none⟩) (Kd.R_far (p := ⟨gb213, 0, none⟩) (Kd.R_mono HO_212000.out (fun k_ hk => (⟨hk, hk.2⟩ : _ ∧ k_ ≠ gb213))) (fun _ hk => hk.2) (.int .u8 (bt a0 x5_17))) (fun _ hk => hk.2) (.int .u8 (bt a0 x5_17))) (fun _ hk => hk.2) (.int .u8 t220)) (fun _ hk => hk.1.2))); (case aS => exact (below_size (by repeat (first | (with_reducible first | exact HB.out | apply below_alloc | apply pw_below_drewN | apply below_drew1 | refine below_set ?_ GE210.out | refine below_set ?_ GE211.out | refine below_set ?_ GE213.out) | exact HB.out)))); (case aL => have := LMc58.out; omega); intro v223 w68 ho hb hg hat; rw [← Ny222.out] at ho; have n0_ := Aside0.mk (blk_grown (g := gb210) (o := .cells #[.slice none 0 0] 49 (0, 0)) (by (with_reducible repeat (first | refine blk_drewN ?_ _ | refine blk_drew ?_ | refine blk_alloc ?_ _)); refine blk_far ?_ NB210_213.out _; (with_reducible repeat (first | refine blk_drewN ?_ _ | refine blk_drew ?_ | refine blk_alloc ?_ _)); refine blk_far ?_ NB210_213.out _; (with_reducible repeat (first | refine blk_drewN ?_ _ | refine blk_drew ?_ | refine blk_alloc ?_ _)); refine blk_far ?_ NB210_213.out _; (with_reducible repeat (first | refine blk_drewN ?_ _ | refine blk_drew ?_ | refine blk_alloc ?_ _)); exact BK210.out) hg (Kd.R_ne HO_212000.out BK210.out (by decide))); have n1_ := Aside0.mk (blk_grown (g := gb211) (o := .cells #[u212000] 49 (0, 0)) (by (with_reducible repeat (first | refine blk_drewN ?_ _ | refine blk_drew ?_ | refine blk_alloc ?_ _)); refine blk_far ?_ NB211_213.out _; (with_reducible repeat (first | refine blk_drewN ?_ _ | refine blk_drew ?_ | refine blk_alloc ?_ _)); refine blk_far ?_ NB211_213.out _; (with_reducible repeat (first | refine blk_drewN ?_ _ | refine blk_drew ?_ | refine blk_alloc ?_ _)); refine blk_far ?_ NB211_213.out _; (with_reducible repeat (first | refine blk_drewN ?_ _ | refine blk_drew ?_ | refine blk_alloc ?_ _)); exact BK211.out) hg (Kd.R_ne HO_212000.out BK211.out (by decide))); have n2_ := Aside0.mk (blk_grown (g := gb213) (o := .cells #[.int .u8 (bt a0 x5_17), .int .u8 t220] 83 (0, 0)) (by (with_reducible repeat (first | refine blk_drewN ?_ _ | refine blk_drew ?_ | refine blk_alloc ?_ _)); refine blk_put (cs := #[.int .u8 (bt a0 x5_17), .int .u8 (bt a0 x5_17)]) ?_ 1 _ rfl; (with_reducible repeat (first | refine blk_drewN ?_ _ | refine blk_drew ?_ | refine blk_alloc ?_ _)); refine blk_put (cs := #[.int .u8 (bt a0 x5_17), .int .u8 0]) ?_ 1 _ rfl; (with_reducible repeat (first | refine blk_drewN ?_ _ | refine blk_drew ?_ | refine blk_alloc ?_ _)); refine blk_put (cs := #[.int .u8 0, .int .u8 0]) ?_ 0 _ rfl; (with_reducible repeat (first | refine blk_drewN ?_ _ | refine blk_drew ?_ | refine blk_alloc ?_ _)); exact BK213.out) hg (Kd.R_away HO_212000.out (fun _ hk => hk.2))); have n3_ := Aside0.mk (hb); have n4_ := Aside0.mk (ho); clear BK210; clear BK211; clear BK213; clear HB; clear HO_212000; have BK210 := n0_; have BK211 := n1_; have BK213 := n2_; have HB := n3_; have HO224 := n4_; clear n0_ n1_ n2_ n3_ n4_; clear ho hb hg hat; obtain ⟨Ao69, co69, eo69⟩ := Kd.R_slice HO224.out; subst eo69; have hcz70_0 : w68.cell? ⟨gb211, 0, none⟩ = some (u212000) := (blk_cell BK211.out 0).trans rfl; have hfz70_0 := blk_frozen BK211.out 0))
                                  go_roundg kj17
                                  case measure => have := HK1.out; have := HJ14.out; have := HJ17.out; omega
                                  case rel => exact ⟨(wrap64 (x5_17 + 1)), (y222), (.slice Ao69 y222.length co69), (by first | rfl | (simp; done) | (simp [*]; done)), H', ⟨by have := HK1.out; have := HJ14.out; have := HJ17.out; omega⟩, ⟨by (with_reducible repeat (first | apply Kd.R_alloc | apply Kd.R_drewN | apply Kd.R_drew)); exact Kd.R_mono (Kd.R_far (p := ⟨gb211, 0, none⟩) (Kd.R_types HO224.out BK211.out (by decide)) (fun _ hk => hk.2) (.slice Ao69 y222.length co69)) (fun _ hk => trivial)⟩, ⟨by (with_reducible repeat (first | refine blk_drewN ?_ _ | refine blk_drew ?_ | refine blk_alloc ?_ _)); refine blk_far ?_ NB210_211.out _; (with_reducible repeat (first | refine blk_drewN ?_ _ | refine blk_drew ?_ | refine blk_alloc ?_ _)); exact BK210.out⟩, ⟨by (with_reducible repeat (first | refine blk_drewN ?_ _ | refine blk_drew ?_ | refine blk_alloc ?_ _)); refine blk_put (cs := #[u212000]) ?_ 0 _ rfl; (with_reducible repeat (first | refine blk_drewN ?_ _ | refine blk_drew ?_ | refine blk_alloc ?_ _)); exact BK211.out⟩, ⟨by repeat (first | (with_reducible first | exact HB.out | apply below_alloc | apply pw_below_drewN | apply below_drew1 | refine below_set ?_ GE210.out | refine below_set ?_ GE211.out | refine below_set ?_ GE213.out) | exact HB.out)⟩⟩
                                · rw [if_neg c58] at H
                                  exact absurd H (by simp)
                              · rw [if_neg c55] at H
                                have c55b0 : ((bt a0 x5_1) == 42) = false := beq_eq_false_iff_ne.mpr c55
                                have c55b1 : ((bt a0 x5_1) != 42) = true := bne_iff_ne.mpr c55
                                by_cases c71 : x212000_1.length < 70368744177664
                                · rw [if_pos c71] at H
                                  have LMc71 := Aside0.mk c71
                                  clear c71
                                  obtain ⟨y225, hy225⟩ : ∃ y_ : List (S83), y_ = (x212000_1 ++ [(⟨bt a0 x5_17, bt a0 x5_17⟩ : S83)]) := ⟨_, rfl⟩
                                  replace H : (impl_ParseCandidate.l0 kj17 a0 (wrap64 (x5_17 + 1)) y225) = some (r1, r2) := by first | (rw [hy225]; with_reducible exact H) | (have H2_ := (Option.bind_some _ _).symm.trans H; rw [hy225]; with_reducible exact H2_) | (have H2_ := (Option.bind_some _ _).symm.trans H; with_reducible exact H2_) | with_reducible exact H | (rw [hy225]; exact H) | exact H
                                  have Ny225 := Aside0.mk hy225
                                  clear hy225
                                  have H' := Aside0.mk H
                                  clear H
                                  try go_wp2
                                  have n0_ := Aside0.mk (Kd.R_drew HO_212000.out)
                                  have n1_ := Aside0.mk (blk_drew BK210.out)
                                  have n2_ := Aside0.mk (blk_drew BK211.out)
                                  have n3_ := Aside0.mk (below_drew1 HB.out)
                                  clear HO_212000
                                  clear BK210
                                  clear BK211
                                  clear HB
                                  have HO_212000 := n0_
                                  have BK210 := n1_
                                  have BK211 := n2_
                                  have HB := n3_
                                  clear n0_ n1_ n2_ n3_
                                  have p25 : 0 ≤ (x5_17 : Int) := of_decide_eq_true (by first | (with_reducible assumption) | assumption)
                                  have q25 : x5_17 < (a0.size : Int) := of_decide_eq_true (by first | (with_reducible assumption) | assumption)
                                  have hx25 := bt_at a0 x5_17
                                  replace p25 := eq_true p25
                                  replace q25 := eq_true q25
                                  have p26 : 0 ≤ (x5_17 : Int) := of_decide_eq_true (by first | (with_reducible assumption) | assumption)
                                  have q26 : x5_17 < (a0.size : Int) := of_decide_eq_true (by first | (with_reducible assumption) | assumption)
                                  have hx26 := bt_at a0 x5_17
                                  replace p26 := eq_true p26
                                  replace q26 := eq_true q26
                                  refine start_ (n := 9) (S := fun w' => True) (ds := []) #[false, false, false, false, false, false, false, false, false] (by kernel_rfl) rfl rfl trivial (fun hHeld => ?_); refine with_tabW impl_ParseCandidate.tab12 impl_ParseCandidate.bits12 (fun HT_ HW_ => ?_)
                                  generalize wc.drew = w72 at HO_212000 BK210 BK211 HB hHeld ⊢
                                  refine pure_ (i := 0) (N := some 38) (v := ?_) (a' := ?_) #[true, false, false, false, false, false, false, false, false] rfl rfl (any_of HT_.out (by kernel_rfl)) (fun _ _ _ h => h) (Or.inl ⟨by rfl, ?_⟩) ?_ ?_
                                  rotate_left
                                  · intro w'
                                    go_simp
                                    with_reducible rfl
                                  rotate_left
                                  · simp only [Act.put, List.setIfInBounds_toArray, List.set_cons_zero, List.set_cons_succ, i64_w, i32_w]
                                    rfl
                                  refine pure_ (i := 1) (N := some 39) (v := ?_) (a' := ?_) #[true, true, false, false, false, false, false, false, false] rfl rfl (any_of HT_.out (by kernel_rfl)) (fun _ _ _ h => h) (Or.inl ⟨by rfl, ?_⟩) ?_ ?_
                                  rotate_left
                                  · intro w'
                                    go_simp
                                    with_reducible rfl
                                  rotate_left
                                  · simp only [Act.put, List.setIfInBounds_toArray, List.set_cons_zero, List.set_cons_succ, i64_w, i32_w]
                                    rfl
                                  refine pure_ (i := 3) (N := some 41) (v := ?_) (a' := ?_) #[true, true, false, true, false, false, false, false, false] rfl rfl (any_of HT_.out (by kernel_rfl)) (fun _ _ _ h => h) (Or.inl ⟨by rfl, ?_⟩) ?_ ?_
                                  rotate_left
                                  · intro w'
                                    go_simp
                                    with_reducible rfl
                                  rotate_left
                                  · simp only [Act.put, List.setIfInBounds_toArray, List.set_cons_zero, List.set_cons_succ, i64_w, i32_w]
                                    rfl
                                  refine pure_ (i := 4) (N := some 42) (v := ?_) (a' := ?_) #[true, true, false, true, true, false, false, false, false] rfl rfl (any_of HT_.out (by kernel_rfl)) (fun _ _ _ h => h) (Or.inl ⟨by rfl, ?_⟩) ?_ ?_
                                  rotate_left
                                  · intro w'
                                    go_simp
                                    with_reducible rfl
                                  rotate_left
                                  · simp only [Act.put, List.setIfInBounds_toArray, List.set_cons_zero, List.set_cons_succ, i64_w, i32_w]
                                    rfl
                                  refine take_ (i := 2) (N := some 40) (v := ?_) (a' := ?_) #[true, true, true, true, true, false, false, false, false] rfl rfl (take_ofW HT_.out HW_.out (by kernel_rfl)) (fun _ _ _ h => h) (Or.inl ⟨by rfl, ?_⟩) hHeld ?_ ?_
                                  rotate_left
                                  · intro w' _
                                    go_simp
                                    with_reducible rfl
                                  rotate_left
                                  · simp only [Act.put, List.setIfInBounds_toArray, List.set_cons_zero, List.set_cons_succ, i64_w, i32_w]
                                    rfl
                                  refine take_ (i := 5) (N := some 43) (v := ?_) (a' := ?_) #[true, true, true, true, true, true, false, false, false] rfl rfl (take_ofW HT_.out HW_.out (by kernel_rfl)) (fun _ _ _ h => h) (Or.inl ⟨by rfl, ?_⟩) hHeld ?_ ?_
                                  rotate_left
                                  · intro w' _
                                    go_simp
                                    with_reducible rfl
                                  rotate_left
                                  · simp only [Act.put, List.setIfInBounds_toArray, List.set_cons_zero, List.set_cons_succ, i64_w, i32_w]
                                    rfl
                                  refine pure_ (i := 6) (N := some 44) (v := ?_) (a' := ?_) #[true, true, true, true, true, true, true, false, false] rfl rfl (any_of HT_.out (by kernel_rfl)) (fun _ _ _ h => h) (Or.inl ⟨by rfl, ?_⟩) ?_ ?_
                                  rotate_left
                                  · intro w'
                                    go_simp
                                    with_reducible rfl
                                  rotate_left
                                  · simp only [Act.put, List.setIfInBounds_toArray, List.set_cons_zero, List.set_cons_succ, i64_w, i32_w]
                                    rfl
                                  refine one_ (i := 7) (N := some 7) #[true, true, true, true, true, true, true, true, false] rfl rfl (one_of HT_.out (by kernel_rfl)) (by decide) (fun K hK => ?_)
                                  refine box_step ?hg (N := 7) ?hd (cs := #[.int .u8 0, .int .u8 0]) (t := 83) ?hr ?_; (case hd => rfl); (case hg => rfl); (case hr => first | (go_simp; done) | (go_simp; rfl))
                                  intro gb213 hg w73 hbox hb
                                  have n0_ := Aside0.mk (Kd.R_below (Kd.R_elderB (by (with_reducible repeat (first | apply Kd.R_alloc | apply Kd.R_drewN | apply Kd.R_drew)); exact HO_212000.out) gb213 (Nat.le_of_eq hg.symm)) hb)
                                  have n1_ := Aside0.mk (blk_below (g := gb210) (o := .cells #[.slice none 0 0] 49 (0, 0)) (by (with_reducible repeat (first | refine blk_drewN ?_ _ | refine blk_drew ?_ | refine blk_alloc ?_ _)); exact BK210.out) hb)
                                  have n2_ := Aside0.mk (blk_below (g := gb211) (o := .cells #[u212000] 49 (0, 0)) (by (with_reducible repeat (first | refine blk_drewN ?_ _ | refine blk_drew ?_ | refine blk_alloc ?_ _)); exact BK211.out) hb)
                                  have n3_ := Aside0.mk (below_step (by repeat (first | (with_reducible first | exact HB.out | apply below_alloc | apply pw_below_drewN | apply below_drew1 | refine below_set ?_ GE210.out | refine below_set ?_ GE211.out) | exact HB.out)) hb)
                                  have n4_ := Aside0.mk (hbox)
                                  have n5_ := Aside0.mk ((by rw [hg]; exact (below_size (by repeat (first | (with_reducible first | exact HB.out | apply below_alloc | apply pw_below_drewN | apply below_drew1 | refine below_set ?_ GE210.out | refine below_set ?_ GE211.out) | exact HB.out))) : w.heap.size ≤ gb213))
                                  have n6_ := Aside0.mk ((by rw [hg]; exact (below_size (by repeat (first | (with_reducible first | exact HB.out | apply below_alloc | apply pw_below_drewN | apply below_drew1 | refine below_set ?_ GE210.out | refine below_set ?_ GE211.out) | exact HB.out))) : w.heap.size ≤ gb213))
                                  have n7_ := Aside0.mk ((by rw [hg]; exact Nat.ne_of_lt (blk_lt (g := gb210) (o := .cells #[.slice none 0 0] 49 (0, 0)) (by (with_reducible repeat (first | refine blk_drewN ?_ _ | refine blk_drew ?_ | refine blk_alloc ?_ _)); exact BK210.out)) : gb210 ≠ gb213))
                                  have n8_ := Aside0.mk ((by rw [hg]; exact Nat.ne_of_gt (blk_lt (g := gb210) (o := .cells #[.slice none 0 0] 49 (0, 0)) (by (with_reducible repeat (first | refine blk_drewN ?_ _ | refine blk_drew ?_ | refine blk_alloc ?_ _)); exact BK210.out)) : gb213 ≠ gb210))
                                  have n9_ := Aside0.mk ((by rw [hg]; exact Nat.ne_of_lt (blk_lt (g := gb211) (o := .cells #[u212000] 49 (0, 0)) (by (with_reducible repeat (first | refine blk_drewN ?_ _ | refine blk_drew ?_ | refine blk_alloc ?_ _)); exact BK211.out)) : gb211 ≠ gb213))
                                  have n10_ := Aside0.mk ((by rw [hg]; exact Nat.ne_of_gt (blk_lt (g := gb211) (o := .cells #[u212000] 49 (0, 0)) (by (with_reducible repeat (first | refine blk_drewN ?_ _ | refine blk_drew ?_ | refine blk_alloc ?_ _)); exact BK211.out)) : gb213 ≠ gb211))
                                  clear HO_212000
                                  clear BK210
                                  clear BK211
                                  clear HB
                                  have HO_212000 := n0_
                                  have BK210 := n1_
                                  have BK211 := n2_
                                  have HB := n3_
                                  have BK213 := n4_
                                  have GW213 := n5_
                                  have GE213 := n6_
                                  have NB210_213 := n7_
                                  have NB213_210 := n8_
                                  have NB211_213 := n9_
                                  have NB213_211 := n10_
                                  clear n0_ n1_ n2_ n3_ n4_ n5_ n6_ n7_ n8_ n9_ n10_
                                  clear hb hbox hg
                                  refine hK.out _ _ trivial (fun hHeld => ?_)
                                  clear hK K
                                  refine norm_ (a' := ?_) ?_ ?_
                                  rotate_left
                                  · show Act.put _ (some 7) _ = _
                                    simp only [Act.put, List.setIfInBounds_toArray, List.set_cons_zero, List.set_cons_succ, i64_w, i32_w]
                                    rfl
                                  refine one_ (i := 8) (N := none) #[true, true, true, true, true, true, true, true, true] rfl rfl (one_of HT_.out (by kernel_rfl)) (by decide) (fun K hK => ?_)
                                  have hs74 : w73.cell? ⟨gb213, 0, none⟩ = some (.int .u8 0) := (blk_cell BK213.out 0).trans rfl
                                  have hfs74 := blk_frozen BK213.out 0
                                  have hns74_0 := NB210_213.out
                                  have hns74_1 := NB211_213.out
                                  have hms74_0 := NB213_210.out
                                  have hms74_1 := NB213_211.out
                                  have hs75 : w73.cell? ⟨gb213, 1, none⟩ = some (.int .u8 0) := (blk_cell BK213.out 1).trans rfl
                                  have hfs75 := blk_frozen BK213.out 1
                                  have hns75_0 := NB210_213.out
                                  have hns75_1 := NB211_213.out
                                  have hms75_0 := NB213_210.out
                                  have hms75_1 := NB213_211.out
                                  refine skip_ (w1 := ?_) (by rfl) rfl ?_ ?_
                                  rotate_left
                                  · go_simp
                                    rfl
                                  refine hK.out _ _ trivial (fun hHeld => ?_)
                                  clear hK K
                                  refine done_ (done_of HT_.out (by kernel_rfl)) ?_
                                  have hnb76 := NB211_210.out
                                  have hnc76 := NB210_211.out
                                  have hnb77 := NB211_213.out
                                  have hnc77 := NB213_211.out
                                  have hcz78_0 : w73.cell? ⟨gb211, 0, none⟩ = some (u212000) := (blk_cell BK211.out 0).trans rfl
                                  have hfz78_0 := blk_frozen BK211.out 0
                                  have hnb79 := NB213_210.out
                                  have hnc79 := NB210_213.out
                                  have hcz80_0 : w73.cell? ⟨gb213, 0, none⟩ = some (.int .u8 0) := (blk_cell BK213.out 0).trans rfl
                                  have hcz80_1 : w73.cell? ⟨gb213, 1, none⟩ = some (.int .u8 0) := (blk_cell BK213.out 1).trans rfl
                                  have hfz80_0 := blk_frozen BK213.out 0
                                  have hfz80_1 := blk_frozen BK213.out 1
                                  try go_wp2_with (first | ((with_reducible refine gate_builtin (b := .append) (xs := #[.tmp 63, .tmp 65]) rfl ?_); at_builtin; refine Kd.R_append k83 (w0 := w) w.heap.size rfl (.tmp 63) (.tmp 65) 47 83 (.agg #[(.int .u8 0), (.int .u8 0)]) 2 rfl Try.underlying47 info83 rfl (by decide) (by omega) u212000 x212000_1 (⟨bt a0 x5_17, bt a0 x5_17⟩ : S83) [.int .u8 (bt a0 x5_17), .int .u8 (bt a0 x5_17)] (fun k_ => k_ ≠ gb213) (fun _ => False) rfl (by first | (go_simp; done) | (go_simp; rfl)) ?aP (fun _ hk => hk.elim) ?aF ?aO ?aB ?aS ?aL ?_; (case aP => exact k83_mkM _ _ _ (⟨bt a0 x5_17, bt a0 x5_17⟩ : S83)); (case aB => exact (by repeat (first | (with_reducible first | exact HB.out | apply below_alloc | apply pw_below_drewN | apply below_drew1 | refine below_set ?_ GE210.out | refine below_set ?_ GE211.out | refine below_set ?_ GE213.out) | exact HB.out))); (case aF => exact (fun k_ hk => Kd.freshB (g := gb213) (o := .cells #[.int .u8 (bt a0 x5_17), .int .u8 (bt a0 x5_17)] 83 (0, 0)) (by (with_reducible repeat (first | refine blk_drewN ?_ _ | refine blk_drew ?_ | refine blk_alloc ?_ _)); refine blk_put (cs := #[.int .u8 (bt a0 x5_17), .int .u8 0]) ?_ 1 _ rfl; (with_reducible repeat (first | refine blk_drewN ?_ _ | refine blk_drew ?_ | refine blk_alloc ?_ _)); refine blk_put (cs := #[.int .u8 0, .int .u8 0]) ?_ 0 _ rfl; (with_reducible repeat (first | refine blk_drewN ?_ _ | refine blk_drew ?_ | refine blk_alloc ?_ _)); exact BK213.out) k_ hk)); (case aO => exact (by (with_reducible repeat (first | apply Kd.R_alloc | apply Kd.R_drewN | apply Kd.R_drew)); exact Kd.R_mono (Kd.R_far (p := ⟨gb213, 1, none⟩) (Kd.R_far (p := ⟨gb213, 0, none⟩) (Kd.R_mono HO_212000.out (fun k_ hk => (⟨hk, hk.2⟩ : _ ∧ k_ ≠ gb213))) (fun _ hk => hk.2) (.int .u8 (bt a0 x5_17))) (fun _ hk => hk.2) (.int .u8 (bt a0 x5_17))) (fun _ hk => hk.1.2))); (case aS => exact (below_size (by repeat (first | (with_reducible first | exact HB.out | apply below_alloc | apply pw_below_drewN | apply below_drew1 | refine below_set ?_ GE210.out | refine below_set ?_ GE211.out | refine below_set ?_ GE213.out) | exact HB.out)))); (case aL => have := LMc71.out; omega); intro v226 w81 ho hb hg hat; rw [← Ny225.out] at ho; have n0_ := Aside0.mk (blk_grown (g := gb210) (o := .cells #[.slice none 0 0] 49 (0, 0)) (by (with_reducible repeat (first | refine blk_drewN ?_ _ | refine blk_drew ?_ | refine blk_alloc ?_ _)); refine blk_far ?_ NB210_213.out _; (with_reducible repeat (first | refine blk_drewN ?_ _ | refine blk_drew ?_ | refine blk_alloc ?_ _)); refine blk_far ?_ NB210_213.out _; (with_reducible repeat (first | refine blk_drewN ?_ _ | refine blk_drew ?_ | refine blk_alloc ?_ _)); exact BK210.out) hg (Kd.R_ne HO_212000.out BK210.out (by decide))); have n1_ := Aside0.mk (blk_grown (g := gb211) (o := .cells #[u212000] 49 (0, 0)) (by (with_reducible repeat (first | refine blk_drewN ?_ _ | refine blk_drew ?_ | refine blk_alloc ?_ _)); refine blk_far ?_ NB211_213.out _; (with_reducible repeat (first | refine blk_drewN ?_ _ | refine blk_drew ?_ | refine blk_alloc ?_ _)); refine blk_far ?_ NB211_213.out _; (with_reducible repeat (first | refine blk_drewN ?_ _ | refine blk_drew ?_ | refine blk_alloc ?_ _)); exact BK211.out) hg (Kd.R_ne HO_212000.out BK211.out (by decide))); have n2_ := Aside0.mk (blk_grown (g := gb213) (o := .cells #[.int .u8 (bt a0 x5_17), .int .u8 (bt a0 x5_17)] 83 (0, 0)) (by (with_reducible repeat (first | refine blk_drewN ?_ _ | refine blk_drew ?_ | refine blk_alloc ?_ _)); refine blk_put (cs := #[.int .u8 (bt a0 x5_17), .int .u8 0]) ?_ 1 _ rfl; (with_reducible repeat (first | refine blk_drewN ?_ _ | refine blk_drew ?_ | refine blk_alloc ?_ _)); refine blk_put (cs := #[.int .u8 0, .int .u8 0]) ?_ 0 _ rfl; (with_reducible repeat (first | refine blk_drewN ?_ _ | refine blk_drew ?_ | refine blk_alloc ?_ _)); exact BK213.out) hg (Kd.R_away HO_212000.out (fun _ hk => hk.2))); have n3_ := Aside0.mk (hb); have n4_ := Aside0.mk (ho); clear BK210; clear BK211; clear BK213; clear HB; clear HO_212000; have BK210 := n0_; have BK211 := n1_; have BK213 := n2_; have HB := n3_; have HO227 := n4_; clear n0_ n1_ n2_ n3_ n4_; clear ho hb hg hat; obtain ⟨Ao82, co82, eo82⟩ := Kd.R_slice HO227.out; subst eo82; have hcz83_0 : w81.cell? ⟨gb211, 0, none⟩ = some (u212000) := (blk_cell BK211.out 0).trans rfl; have hfz83_0 := blk_frozen BK211.out 0))
                                  go_roundg kj17
                                  case measure => have := HK1.out; have := HJ14.out; have := HJ17.out; omega
                                  case rel => exact ⟨(wrap64 (x5_17 + 1)), (y225), (.slice Ao82 y225.length co82), (by first | rfl | (simp; done) | (simp [*]; done)), H', ⟨by have := HK1.out; have := HJ14.out; have := HJ17.out; omega⟩, ⟨by (with_reducible repeat (first | apply Kd.R_alloc | apply Kd.R_drewN | apply Kd.R_drew)); exact Kd.R_mono (Kd.R_far (p := ⟨gb211, 0, none⟩) (Kd.R_types HO227.out BK211.out (by decide)) (fun _ hk => hk.2) (.slice Ao82 y225.length co82)) (fun _ hk => trivial)⟩, ⟨by (with_reducible repeat (first | refine blk_drewN ?_ _ | refine blk_drew ?_ | refine blk_alloc ?_ _)); refine blk_far ?_ NB210_211.out _; (with_reducible repeat (first | refine blk_drewN ?_ _ | refine blk_drew ?_ | refine blk_alloc ?_ _)); exact BK210.out⟩, ⟨by (with_reducible repeat (first | refine blk_drewN ?_ _ | refine blk_drew ?_ | refine blk_alloc ?_ _)); refine blk_put (cs := #[u212000]) ?_ 0 _ rfl; (with_reducible repeat (first | refine blk_drewN ?_ _ | refine blk_drew ?_ | refine blk_alloc ?_ _)); exact BK211.out⟩, ⟨by repeat (first | (with_reducible first | exact HB.out | apply below_alloc | apply pw_below_drewN | apply below_drew1 | refine below_set ?_ GE210.out | refine below_set ?_ GE211.out | refine below_set ?_ GE213.out) | exact HB.out)⟩⟩
                                · rw [if_neg c71] at H
                                  exact absurd H (by simp)
                        · rw [if_neg c24] at H
                          exact absurd H (by simp)
                      · rw [if_neg c23] at H
                        exact absurd H (by simp)
          · rw [if_neg c13] at H
            exact absurd H (by simp)
        · rw [if_neg c12] at H
          have c12b0 : decide (x5_1 < (a0.size : Int)) = false := decide_eq_false c12
          clear c12
          by_cases c84 : (x212000_1.length : Int) = 0
          · rw [if_pos c84] at H
            have c84b0 : ((x212000_1.length : Int) == 0) = true := beq_iff_eq.mpr c84
            have c84b1 : ((x212000_1.length : Int) != 0) = false := bne_eq_false_iff_eq.mpr c84
            clear c84
            simp only [Option.some.injEq, Prod.mk.injEq] at H
            obtain ⟨rfl, rfl⟩ := H
            have hnb85 := NB211_210.out
            have hnc85 := NB210_211.out
            have hcz86_0 : wr.cell? ⟨gb211, 0, none⟩ = some (u212000) := (blk_cell BK211.out 0).trans rfl
            have hfz86_0 := blk_frozen BK211.out 0
            obtain ⟨Ao87, co87, eo87⟩ := Kd.R_slice HO_212000.out
            subst eo87
            have hcz88_0 : wr.cell? ⟨gb210, 0, none⟩ = some (.slice none 0 0) := (blk_cell BK210.out 0).trans rfl
            have hfz88_0 := blk_frozen BK210.out 0
            go_wp2
            refine bodyPost_ret (results_ct rfl _ _ gb210 49 #[.slice none 0 0] (0, 0) _ rfl (by (with_reducible repeat (first | refine blk_drewN ?_ _ | refine blk_drew ?_ | refine blk_alloc ?_ _)); refine blk_put (cs := #[.slice none 0 0]) ?_ 0 _ rfl; (with_reducible repeat (first | refine blk_drewN ?_ _ | refine blk_drew ?_ | refine blk_alloc ?_ _)); exact BK210.out) Try.underlying49 rfl (by kernel_rfl)) rfl ?_
            exact ⟨_, by first | rfl | (simp [errW_none, errW_some] <;> rfl) | (simp [*, errW_none, errW_some] <;> rfl), by first | exact Kd.R_nil _ _ _ _ _ | exact Kd.N_nil _ _ _ _ _ | exact Kd.V_nil _ _ _ _ _ | exact Kd.Q_nil _ _ _ _ _ | exact Kd.S_nil _ _ _ _ _, by repeat (first | (with_reducible first | exact HB.out | apply below_alloc | apply pw_below_drewN | apply below_drew1 | refine below_set ?_ GE210.out | refine below_set ?_ GE211.out) | exact HB.out)⟩
          · rw [if_neg c84] at H
            have c84b0 : ((x212000_1.length : Int) == 0) = false := beq_eq_false_iff_ne.mpr c84
            have c84b1 : ((x212000_1.length : Int) != 0) = true := bne_iff_ne.mpr c84
            have c84b2 : ¬ (x212000_1 = []) := fun h_ => c84 (by rw [h_]; rfl)
            replace H := Option.bind_eq_some_iff.mp H
            obtain ⟨t212, A890, H⟩ := H
            replace H : (if t212.toList = a0.toList then (some (x212000_1, true)) else (some (([] : List (S83)), false))) = some (r1, r2) := H
            have A89 := Aside0.mk A890
            clear A890
            by_cases c90 : t212.toList = a0.toList
            · rw [if_pos c90] at H
              have c90b0 : (t212.toList == a0.toList) = true := beq_iff_eq.mpr c90
              have c90b1 : (t212.toList != a0.toList) = false := bne_eq_false_iff_eq.mpr c90
              clear c90
              simp only [Option.some.injEq, Prod.mk.injEq] at H
              obtain ⟨rfl, rfl⟩ := H
              have hnb91 := NB211_210.out
              have hnc91 := NB210_211.out
              have hcz92_0 : wr.cell? ⟨gb211, 0, none⟩ = some (u212000) := (blk_cell BK211.out 0).trans rfl
              have hfz92_0 := blk_frozen BK211.out 0
              obtain ⟨Ao93, co93, eo93⟩ := Kd.R_slice HO_212000.out
              subst eo93
              go_wp2_with (first | (go_at_call 47; (with_reducible refine (impl_FormatCandidate.calls k1 _ _ x212000_1 t212 _ ?side1 ?side2 A89.out).mono ?_); (case side1 => repeat (first | exact (Kd.R_reads' HO_212000.out).2.2 | (with_reducible refine Kd.C_alloc ?_ _) | (with_reducible refine Kd.C_drewN ?_ _) | (with_reducible refine Kd.C_drew ?_))); (case side2 => exact (Kd.R_reads' HO_212000.out).2.1); rintro e w94 ⟨rfl, hb⟩; have n0_ := Aside0.mk (Kd.R_below (by (with_reducible repeat (first | apply Kd.R_alloc | apply Kd.R_drewN | apply Kd.R_drew)); exact HO_212000.out) hb); have n1_ := Aside0.mk (blk_below (g := gb210) (o := .cells #[.slice none 0 0] 49 (0, 0)) (by (with_reducible repeat (first | refine blk_drewN ?_ _ | refine blk_drew ?_ | refine blk_alloc ?_ _)); exact BK210.out) hb); have n2_ := Aside0.mk (blk_below (g := gb211) (o := .cells #[.slice Ao93 x212000_1.length co93] 49 (0, 0)) (by (with_reducible repeat (first | refine blk_drewN ?_ _ | refine blk_drew ?_ | refine blk_alloc ?_ _)); exact BK211.out) hb); have n3_ := Aside0.mk (below_step (by repeat (first | (with_reducible first | exact HB.out | apply below_alloc | apply pw_below_drewN | apply below_drew1 | refine below_set ?_ GE210.out | refine below_set ?_ GE211.out) | exact HB.out)) hb); clear HO_212000; clear BK210; clear BK211; clear HB; have HO_212000 := n0_; have BK210 := n1_; have BK211 := n2_; have HB := n3_; clear n0_ n1_ n2_ n3_; (try clear hb); (try clear hb2); (try clear hk); (try clear hi); have hcz95_0 : w94.cell? ⟨gb211, 0, none⟩ = some (.slice Ao93 x212000_1.length co93) := (blk_cell BK211.out 0).trans rfl; have hfz95_0 := blk_frozen BK211.out 0; have hcz96_0 : w94.cell? ⟨gb210, 0, none⟩ = some (.slice none 0 0) := (blk_cell BK210.out 0).trans rfl; have hfz96_0 := blk_frozen BK210.out 0))
              refine bodyPost_ret (results_ct rfl _ _ gb210 49 #[.slice Ao93 x212000_1.length co93] (0, 0) _ rfl (by (with_reducible repeat (first | refine blk_drewN ?_ _ | refine blk_drew ?_ | refine blk_alloc ?_ _)); refine blk_put (cs := #[.slice none 0 0]) ?_ 0 _ rfl; (with_reducible repeat (first | refine blk_drewN ?_ _ | refine blk_drew ?_ | refine blk_alloc ?_ _)); exact BK210.out) Try.underlying49 rfl (by kernel_rfl)) rfl ?_
              exact ⟨_, by first | rfl | (simp [errW_none, errW_some] <;> rfl) | (simp [*, errW_none, errW_some] <;> rfl), by (with_reducible repeat (first | apply Kd.R_alloc | apply Kd.R_drewN | apply Kd.R_drew)); exact Kd.R_mono (Kd.R_far (p := ⟨gb210, 0, none⟩) (Kd.R_types HO_212000.out BK210.out (by decide)) (fun _ hk => hk.2) (.slice Ao93 x212000_1.length co93)) (fun _ hk => trivial), by repeat (first | (with_reducible first | exact HB.out | apply below_alloc | apply pw_below_drewN | apply below_drew1 | refine below_set ?_ GE210.out | refine below_set ?_ GE211.out) | exact HB.out)⟩
            · rw [if_neg c90] at H
              have c90b0 : (t212.toList == a0.toList) = false := beq_eq_false_iff_ne.mpr c90
              have c90b1 : (t212.toList != a0.toList) = true := bne_iff_ne.mpr c90
              simp only [Option.some.injEq, Prod.mk.injEq] at H
              obtain ⟨rfl, rfl⟩ := H
              have hnb97 := NB211_210.out
              have hnc97 := NB210_211.out
              have hcz98_0 : wr.cell? ⟨gb211, 0, none⟩ = some (u212000) := (blk_cell BK211.out 0).trans rfl
              have hfz98_0 := blk_frozen BK211.out 0
              obtain ⟨Ao99, co99, eo99⟩ := Kd.R_slice HO_212000.out
              subst eo99
              go_wp2_with (first | (go_at_call 47; (with_reducible refine (impl_FormatCandidate.calls k1 _ _ x212000_1 t212 _ ?side1 ?side2 A89.out).mono ?_); (case side1 => repeat (first | exact (Kd.R_reads' HO_212000.out).2.2 | (with_reducible refine Kd.C_alloc ?_ _) | (with_reducible refine Kd.C_drewN ?_ _) | (with_reducible refine Kd.C_drew ?_))); (case side2 => exact (Kd.R_reads' HO_212000.out).2.1); rintro e w100 ⟨rfl, hb⟩; have n0_ := Aside0.mk (Kd.R_below (by (with_reducible repeat (first | apply Kd.R_alloc | apply Kd.R_drewN | apply Kd.R_drew)); exact HO_212000.out) hb); have n1_ := Aside0.mk (blk_below (g := gb210) (o := .cells #[.slice none 0 0] 49 (0, 0)) (by (with_reducible repeat (first | refine blk_drewN ?_ _ | refine blk_drew ?_ | refine blk_alloc ?_ _)); exact BK210.out) hb); have n2_ := Aside0.mk (blk_below (g := gb211) (o := .cells #[.slice Ao99 x212000_1.length co99] 49 (0, 0)) (by (with_reducible repeat (first | refine blk_drewN ?_ _ | refine blk_drew ?_ | refine blk_alloc ?_ _)); exact BK211.out) hb); have n3_ := Aside0.mk (below_step (by repeat (first | (with_reducible first | exact HB.out | apply below_alloc | apply pw_below_drewN | apply below_drew1 | refine below_set ?_ GE210.out | refine below_set ?_ GE211.out) | exact HB.out)) hb); clear HO_212000; clear BK210; clear BK211; clear HB; have HO_212000 := n0_; have BK210 := n1_; have BK211 := n2_; have HB := n3_; clear n0_ n1_ n2_ n3_; (try clear hb); (try clear hb2); (try clear hk); (try clear hi); have hcz101_0 : w100.cell? ⟨gb210, 0, none⟩ = some (.slice none 0 0) := (blk_cell BK210.out 0).trans rfl; have hfz101_0 := blk_frozen BK210.out 0))
              refine bodyPost_ret (results_ct rfl _ _ gb210 49 #[.slice none 0 0] (0, 0) _ rfl (by (with_reducible repeat (first | refine blk_drewN ?_ _ | refine blk_drew ?_ | refine blk_alloc ?_ _)); refine blk_put (cs := #[.slice none 0 0]) ?_ 0 _ rfl; (with_reducible repeat (first | refine blk_drewN ?_ _ | refine blk_drew ?_ | refine blk_alloc ?_ _)); exact BK210.out) Try.underlying49 rfl (by kernel_rfl)) rfl ?_
              exact ⟨_, by first | rfl | (simp [errW_none, errW_some] <;> rfl) | (simp [*, errW_none, errW_some] <;> rfl), by first | exact Kd.R_nil _ _ _ _ _ | exact Kd.N_nil _ _ _ _ _ | exact Kd.V_nil _ _ _ _ _ | exact Kd.Q_nil _ _ _ _ _ | exact Kd.S_nil _ _ _ _ _, by repeat (first | (with_reducible first | exact HB.out | apply below_alloc | apply pw_below_drewN | apply below_drew1 | refine below_set ?_ GE210.out | refine below_set ?_ GE211.out) | exact HB.out)⟩

end Go.Proofs.Ytomkfofflpdknaa.PFnExactParseCandidate
