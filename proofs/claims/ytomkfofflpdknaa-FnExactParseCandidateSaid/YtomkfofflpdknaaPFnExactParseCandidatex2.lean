-- written for this claim by a program of this session (wip/patch_print.py over the kit's print)
import Derived.Test.YtomkfofflpdknaaPFnExactParseCandidatex0
import Derived.Test.YtomkfofflpdknaaPFnExactParseCandidatex1
namespace Go.Proofs.Ytomkfofflpdknaa.PFnExactParseCandidate
open Go.RowKit Go.Proofs.YtomkfofflpdknaaW.PrintWords Go.Proofs.YtomkfofflpdknaaW.PrintLast Go.Proofs.YtomkfofflpdknaaW.PrintMore
attribute [local go_sem] max2_int min2_int max_two min_two max_three min_three max_four min_four   -- for this text's walks alone
set_option linter.unusedVariables false
set_option linter.unusedSimpArgs false

/-! ### spec_l6In: function 71 -/
def spec_l6In.l0 : Nat → List Int → Int → List (S83) → Option (ByteArray)
  | 0, _, _, _ => none
  | k + 1, x3, x4, x112000 => if x4 < (x112000.length : Int) then (if 0 ≤ x4 then (if ((rd_T83 x112000 x4).f0) = 0 then (spec_l6In.l0 k x3 (wrap64 (x4 + 1)) x112000) else (if x3.length < 140737488355328 then (spec_l6In.l0 k (x3 ++ [(rd_T83 x112000 x4).f0]) (wrap64 (x4 + 1)) x112000) else (none))) else (none)) else (some (strOfNums x3))
def spec_l6In.f (k : Nat) (l0_0 : List (S83)) : Option (ByteArray) := spec_l6In.l0 k (([] : List Int)) 0 l0_0
theorem spec_l6In.mono_l : ∀ k, (∀ y0 y1 y2, LeO (spec_l6In.l0 k y0 y1 y2) (spec_l6In.l0 (k + 1) y0 y1 y2))
  | 0 => fun _ _ _ r h => by simp [spec_l6In.l0] at h
  | k + 1 => by
    have ih0 := spec_l6In.mono_l k
    · intro y0 y1 y2
      unfold spec_l6In.l0
      repeat' first
      | (with_reducible exact ih0 _ _ _)
      | (with_reducible exact LeO.refl _)
      | (with_reducible exact LeO.none _)
      | (with_reducible refine LeO.ite ?_ ?_)
      | (with_reducible refine LeO.bind ?_ (fun _ => ?_))
      | exact ih0 _ _ _
      | exact LeO.none _
      | refine LeO.ite ?_ ?_
      | refine LeO.bind ?_ (fun _ => ?_)
theorem spec_l6In.mono : ∀ a0 k, LeO (spec_l6In.f k a0) (spec_l6In.f (k + 1) a0) := by
  intro a0 k
  have ih0 := spec_l6In.mono_l k
  unfold spec_l6In.f
  repeat' first
      | (with_reducible exact ih0 _ _ _)
      | (with_reducible exact LeO.refl _)
      | (with_reducible exact LeO.none _)
      | (with_reducible refine LeO.ite ?_ ?_)
      | (with_reducible refine LeO.bind ?_ (fun _ => ?_))
      | exact ih0 _ _ _
      | exact LeO.none _
      | refine LeO.ite ?_ ?_
      | refine LeO.bind ?_ (fun _ => ?_)
set_option maxHeartbeats 8000000 in
set_option maxRecDepth 100000 in
theorem spec_l6In.calls (k : Nat) (A0_0 : Option Addr) (c0_0 : Nat) (l0_0 : List (S83)) (r : ByteArray) (w : World) (hr0_0 : Kd.C k83 w A0_0 l0_0.length l0_0) (hc0_0 : l0_0.length ≤ c0_0) (h : spec_l6In.f k l0_0 = some r) :
    Calls Try.prog 71 #[.agg #[.slice A0_0 l0_0.length c0_0]] w fun e w' => e = .returned (.string r) ∧ Below w.heap.size w w' := by
  have hu49 := Try.underlying49
  have HR0_0 := Aside0.mk hr0_0
  have HC0_0 := Aside0.mk hc0_0
  clear hr0_0 hc0_0
  have HB := Aside0.mk (Below.refl w.heap.size w)
  have H : (spec_l6In.l0 k (([] : List Int)) 0 l0_0) = some r := h
  clear h
  obtain ⟨y112, hy112⟩ : ∃ y_ : List Int, y_ = (([] : List Int)) := ⟨_, rfl⟩
  replace H : (spec_l6In.l0 k y112 0 l0_0) = some r := by first | (rw [hy112]; with_reducible exact H) | (have H2_ := (Option.bind_some _ _).symm.trans H; rw [hy112]; with_reducible exact H2_) | (have H2_ := (Option.bind_some _ _).symm.trans H; with_reducible exact H2_) | with_reducible exact H | (rw [hy112]; exact H) | exact H
  have Ny112 := Aside0.mk hy112
  clear hy112
  have H' := Aside0.mk H
  clear H
  go_enter Try.func71, Try.ntmps71
  go_wp2_with (first | ((with_reducible refine gate_dst (N := 1) rfl ?_); refine box_event ?hg (N := 1) ?hd (cs := #[.slice A0_0 l0_0.length c0_0]) (t := 49) ?hr ?_; (case hd => rfl); (case hg => rfl); (case hr => first | (go_simp; done) | (go_simp; rfl)); intro gb111 hg w2 hbox hb; have n0_ := Aside0.mk (below_step (by repeat (first | (with_reducible first | exact HB.out | apply below_alloc | apply pw_below_drewN | apply below_drew1) | exact HB.out)) hb); have n1_ := Aside0.mk (hbox); have n2_ := Aside0.mk ((by rw [hg]; exact (below_size (by repeat (first | (with_reducible first | exact HB.out | apply below_alloc | apply pw_below_drewN | apply below_drew1) | exact HB.out))) : w.heap.size ≤ gb111)); have n3_ := Aside0.mk ((by rw [hg]; exact (below_size (by repeat (first | (with_reducible first | exact HB.out | apply below_alloc | apply pw_below_drewN | apply below_drew1) | exact HB.out))) : w.heap.size ≤ gb111)); clear HB; have HB := n0_; have BK111 := n1_; have GW111 := n2_; have GE111 := n3_; clear n0_ n1_ n2_ n3_; clear hb hbox hg) | ((with_reducible refine gate_dst (N := 5) rfl ?_); refine Kd.R_lit (Kd.int .u8) _ 5 ?hg (N := 5) ?hd (xs := ([] : List Int)) (inner := []) (ok := fun _ => True) (okp := fun _ => True) ?hr ?hp (fun _ hk => hk) trivial (Below.refl _ _) (Nat.le_refl _) (by simp) ?_; (case hd => rfl); (case hg => rfl); (case hr => first | (go_simp; done) | (go_simp; rfl)); (case hp => exact (Reps.none _ _)); intro v113 w3 ho4 hb hg_ hnew_; clear hg_ hnew_; (first | rw [← Ny112.out] at ho4 | (simp only [Int.reduceToNat] at ho4; rw [← Ny112.out] at ho4)); have n0_ := Aside0.mk (Kd.R_lower ho4 (below_size (by repeat (first | (with_reducible first | exact HB.out | apply below_alloc | apply pw_below_drewN | apply below_drew1 | refine below_set ?_ GE111.out) | exact HB.out)))); have n1_ := Aside0.mk (blk_below (g := gb111) (o := .cells #[.slice A0_0 l0_0.length c0_0] 49 (0, 0)) (by (with_reducible repeat (first | refine blk_drewN ?_ _ | refine blk_drew ?_ | refine blk_alloc ?_ _)); exact BK111.out) hb); have n2_ := Aside0.mk (below_step (by repeat (first | (with_reducible first | exact HB.out | apply below_alloc | apply pw_below_drewN | apply below_drew1 | refine below_set ?_ GE111.out) | exact HB.out)) hb); clear BK111; clear HB; have HO114 := n0_; have BK111 := n1_; have HB := n2_; clear n0_ n1_ n2_; clear hb ho4))
  go_loopg [3, 4] k (fun kq v3 v4 w' => ∃ (x3_1 : List Int) (x4_1 : Int), v4 = .int .i64 x4_1 ∧ Aside0 (spec_l6In.l0 kq x3_1 x4_1 l0_0 = some r) ∧ Aside0 (kq ≤ k) ∧ Aside0 (Kd.R (Kd.int .u8) 5 w' w.heap.size (fun _ => True) v3 x3_1) ∧ Aside0 (w'.heap[gb111]? = some (.cells #[(.slice A0_0 l0_0.length c0_0)] 49 (0, 0))) ∧ Aside0 (Below w.heap.size w w'))
  case atStart => exact ⟨(y112), (0), (by first | rfl | (simp; done) | (simp [*]; done)), H', ⟨Nat.le_refl _⟩, ⟨by (with_reducible repeat (first | apply Kd.R_alloc | apply Kd.R_drewN | apply Kd.R_drew)); exact HO114.out⟩, ⟨by (with_reducible repeat (first | refine blk_drewN ?_ _ | refine blk_drew ?_ | refine blk_alloc ?_ _)); exact BK111.out⟩, ⟨by repeat (first | (with_reducible first | exact HB.out | apply below_alloc | apply pw_below_drewN | apply below_drew1 | refine below_set ?_ GE111.out) | exact HB.out)⟩⟩
  case round =>
    clear H'
    try clear p2
    obtain ⟨x3_1, x4_1, rfl, HA, HK1, HO_3, BK111, HB⟩ := hrel
    cases gk with
    | zero => exact absurd HA.out (by simp [spec_l6In.l0])
    | succ k1 =>
      have H := HA.out
      clear HA
      simp only [spec_l6In.l0] at H
      by_cases c5 : x4_1 < (l0_0.length : Int)
      · rw [if_pos c5] at H
        have c5b0 : decide (x4_1 < (l0_0.length : Int)) = true := decide_eq_true c5
        clear c5
        by_cases c6 : 0 ≤ x4_1
        · rw [if_pos c6] at H
          have c6b0 : decide (0 ≤ x4_1) = true := decide_eq_true c6
          clear c6
          by_cases c7 : ((rd_T83 l0_0 x4_1).f0) = 0
          · rw [if_pos c7] at H
            have c7b0 : (((rd_T83 l0_0 x4_1).f0) == 0) = true := beq_iff_eq.mpr c7
            have c7b1 : (((rd_T83 l0_0 x4_1).f0) != 0) = false := bne_eq_false_iff_eq.mpr c7
            clear c7
            have H' := Aside0.mk H
            clear H
            have hcz8_0 : wr.cell? ⟨gb111, 0, none⟩ = some (.slice A0_0 l0_0.length c0_0) := (blk_cell BK111.out 0).trans rfl
            have hfz8_0 := blk_frozen BK111.out 0
            have p115 : 0 ≤ (x4_1 : Int) := of_decide_eq_true (by first | (with_reducible assumption) | assumption)
            have q115 : x4_1 < (l0_0.length : Int) := of_decide_eq_true (by first | (with_reducible assumption) | assumption)
            obtain ⟨ad115, e115, hx115_0, hx115_1⟩ := at_T83 HR0_0.out x4_1 p115 q115
            cases e115
            replace hx115_0 := (HB.out.cell (World.block_lt_of_cell? w _ hx115_0)).trans hx115_0
            replace hx115_1 := (HB.out.cell (World.block_lt_of_cell? w _ hx115_1)).trans hx115_1
            replace p115 := eq_true p115
            replace q115 := eq_true q115
            go_wp2
            go_roundg k1
            case measure => have := HK1.out; omega
            case rel => exact ⟨(x3_1), (wrap64 (x4_1 + 1)), (by first | rfl | (simp; done) | (simp [*]; done)), H', ⟨by have := HK1.out; omega⟩, ⟨by (with_reducible repeat (first | apply Kd.R_alloc | apply Kd.R_drewN | apply Kd.R_drew)); exact HO_3.out⟩, ⟨by (with_reducible repeat (first | refine blk_drewN ?_ _ | refine blk_drew ?_ | refine blk_alloc ?_ _)); exact BK111.out⟩, ⟨by repeat (first | (with_reducible first | exact HB.out | apply below_alloc | apply pw_below_drewN | apply below_drew1 | refine below_set ?_ GE111.out) | exact HB.out)⟩⟩
          · rw [if_neg c7] at H
            have c7b0 : (((rd_T83 l0_0 x4_1).f0) == 0) = false := beq_eq_false_iff_ne.mpr c7
            have c7b1 : (((rd_T83 l0_0 x4_1).f0) != 0) = true := bne_iff_ne.mpr c7
            by_cases c9 : x3_1.length < 140737488355328
            · rw [if_pos c9] at H
              have LMc9 := Aside0.mk c9
              clear c9
              obtain ⟨y117, hy117⟩ : ∃ y_ : List Int, y_ = (x3_1 ++ [(rd_T83 l0_0 x4_1).f0]) := ⟨_, rfl⟩
              replace H : (spec_l6In.l0 k1 y117 (wrap64 (x4_1 + 1)) l0_0) = some r := by first | (rw [hy117]; with_reducible exact H) | (have H2_ := (Option.bind_some _ _).symm.trans H; rw [hy117]; with_reducible exact H2_) | (have H2_ := (Option.bind_some _ _).symm.trans H; with_reducible exact H2_) | with_reducible exact H | (rw [hy117]; exact H) | exact H
              have Ny117 := Aside0.mk hy117
              clear hy117
              have H' := Aside0.mk H
              clear H
              have hcz10_0 : wr.cell? ⟨gb111, 0, none⟩ = some (.slice A0_0 l0_0.length c0_0) := (blk_cell BK111.out 0).trans rfl
              have hfz10_0 := blk_frozen BK111.out 0
              have p115 : 0 ≤ (x4_1 : Int) := of_decide_eq_true (by first | (with_reducible assumption) | assumption)
              have q115 : x4_1 < (l0_0.length : Int) := of_decide_eq_true (by first | (with_reducible assumption) | assumption)
              obtain ⟨ad115, e115, hx115_0, hx115_1⟩ := at_T83 HR0_0.out x4_1 p115 q115
              cases e115
              replace hx115_0 := (HB.out.cell (World.block_lt_of_cell? w _ hx115_0)).trans hx115_0
              replace hx115_1 := (HB.out.cell (World.block_lt_of_cell? w _ hx115_1)).trans hx115_1
              replace p115 := eq_true p115
              replace q115 := eq_true q115
              have p116 : 0 ≤ (x4_1 : Int) := of_decide_eq_true (by first | (with_reducible assumption) | assumption)
              have q116 : x4_1 < (l0_0.length : Int) := of_decide_eq_true (by first | (with_reducible assumption) | assumption)
              obtain ⟨ad116, e116, hx116_0, hx116_1⟩ := at_T83 HR0_0.out x4_1 p116 q116
              obtain rfl : ad115 = ad116 := (by injection e116)
              replace hx116_0 := (HB.out.cell (World.block_lt_of_cell? w _ hx116_0)).trans hx116_0
              replace hx116_1 := (HB.out.cell (World.block_lt_of_cell? w _ hx116_1)).trans hx116_1
              replace p116 := eq_true p116
              replace q116 := eq_true q116
              go_wp2_with (first | ((with_reducible refine gate_builtin (b := .append) (xs := #[.tmp 20, .tmp 27]) rfl ?_); at_builtin; refine Kd.R_append (Kd.int .u8) (w0 := w) w.heap.size rfl (.tmp 20) (.tmp 27) 100 5 (.int .u8 0) 1 rfl Try.underlying100 info5 rfl (by decide) (by omega) u3 x3_1 ((rd_T83 l0_0 x4_1).f0) [.int .u8 ((rd_T83 l0_0 x4_1).f0)] (fun _ => True) (fun _ => False) rfl rfl ?aP (fun _ hk => hk.elim) ?aF ?aO ?aB ?aS ?aL ?_; (case aP => exact rfl); (case aB => exact (by repeat (first | (with_reducible first | exact HB.out | apply below_alloc | apply pw_below_drewN | apply below_drew1 | refine below_set ?_ GE111.out) | exact HB.out))); (case aF => exact (fun _ _ => trivial)); (case aO => exact (by (with_reducible repeat (first | apply Kd.R_alloc | apply Kd.R_drewN | apply Kd.R_drew)); exact HO_3.out)); (case aS => exact (below_size (by repeat (first | (with_reducible first | exact HB.out | apply below_alloc | apply pw_below_drewN | apply below_drew1 | refine below_set ?_ GE111.out) | exact HB.out)))); (case aL => have := LMc9.out; omega); intro v118 w11 ho hb hg hat; rw [← Ny117.out] at ho; have n0_ := Aside0.mk (blk_grown (g := gb111) (o := .cells #[.slice (some ad115) l0_0.length c0_0] 49 (0, 0)) (by (with_reducible repeat (first | refine blk_drewN ?_ _ | refine blk_drew ?_ | refine blk_alloc ?_ _)); exact BK111.out) hg (Kd.R_ne HO_3.out BK111.out (by decide))); have n1_ := Aside0.mk (hb); have n2_ := Aside0.mk (ho); clear BK111; clear HB; clear HO_3; have BK111 := n0_; have HB := n1_; have HO119 := n2_; clear n0_ n1_ n2_; clear ho hb hg hat))
              go_roundg k1
              case measure => have := HK1.out; omega
              case rel => exact ⟨(y117), (wrap64 (x4_1 + 1)), (by first | rfl | (simp; done) | (simp [*]; done)), H', ⟨by have := HK1.out; omega⟩, ⟨by (with_reducible repeat (first | apply Kd.R_alloc | apply Kd.R_drewN | apply Kd.R_drew)); exact HO119.out⟩, ⟨by (with_reducible repeat (first | refine blk_drewN ?_ _ | refine blk_drew ?_ | refine blk_alloc ?_ _)); exact BK111.out⟩, ⟨by repeat (first | (with_reducible first | exact HB.out | apply below_alloc | apply pw_below_drewN | apply below_drew1 | refine below_set ?_ GE111.out) | exact HB.out)⟩⟩
            · rw [if_neg c9] at H
              exact absurd H (by simp)
        · rw [if_neg c6] at H
          exact absurd H (by simp)
      · rw [if_neg c5] at H
        have c5b0 : decide (x4_1 < (l0_0.length : Int)) = false := decide_eq_false c5
        clear c5
        obtain rfl := Option.some.inj H
        have hcz12_0 : wr.cell? ⟨gb111, 0, none⟩ = some (.slice A0_0 l0_0.length c0_0) := (blk_cell BK111.out 0).trans rfl
        have hfz12_0 := blk_frozen BK111.out 0
        have hcv13 := own_string (P := Try.prog) Try.underlying100 Try.underlying5 Try.underlying9 (Kd.own_of_R HO_3.out)
        go_wp2
        go_ret
        exact ⟨by first | rfl | (simp [errW_none, errW_some] <;> rfl) | (simp [*, errW_none, errW_some] <;> rfl), by repeat (first | (with_reducible first | exact HB.out | apply below_alloc | apply pw_below_drewN | apply below_drew1 | refine below_set ?_ GE111.out) | exact HB.out)⟩

/-! ### spec_l6Out: function 72 -/
def spec_l6Out.l0 : Nat → List Int → Int → List (S83) → Option (ByteArray)
  | 0, _, _, _ => none
  | k + 1, x3, x4, x121000 => if x4 < (x121000.length : Int) then (if 0 ≤ x4 then (if ((rd_T83 x121000 x4).f1) = 0 then (spec_l6Out.l0 k x3 (wrap64 (x4 + 1)) x121000) else (if x3.length < 140737488355328 then (spec_l6Out.l0 k (x3 ++ [(rd_T83 x121000 x4).f1]) (wrap64 (x4 + 1)) x121000) else (none))) else (none)) else (some (strOfNums x3))
def spec_l6Out.f (k : Nat) (l0_0 : List (S83)) : Option (ByteArray) := spec_l6Out.l0 k (([] : List Int)) 0 l0_0
theorem spec_l6Out.mono_l : ∀ k, (∀ y0 y1 y2, LeO (spec_l6Out.l0 k y0 y1 y2) (spec_l6Out.l0 (k + 1) y0 y1 y2))
  | 0 => fun _ _ _ r h => by simp [spec_l6Out.l0] at h
  | k + 1 => by
    have ih0 := spec_l6Out.mono_l k
    · intro y0 y1 y2
      unfold spec_l6Out.l0
      repeat' first
      | (with_reducible exact ih0 _ _ _)
      | (with_reducible exact LeO.refl _)
      | (with_reducible exact LeO.none _)
      | (with_reducible refine LeO.ite ?_ ?_)
      | (with_reducible refine LeO.bind ?_ (fun _ => ?_))
      | exact ih0 _ _ _
      | exact LeO.none _
      | refine LeO.ite ?_ ?_
      | refine LeO.bind ?_ (fun _ => ?_)
theorem spec_l6Out.mono : ∀ a0 k, LeO (spec_l6Out.f k a0) (spec_l6Out.f (k + 1) a0) := by
  intro a0 k
  have ih0 := spec_l6Out.mono_l k
  unfold spec_l6Out.f
  repeat' first
      | (with_reducible exact ih0 _ _ _)
      | (with_reducible exact LeO.refl _)
      | (with_reducible exact LeO.none _)
      | (with_reducible refine LeO.ite ?_ ?_)
      | (with_reducible refine LeO.bind ?_ (fun _ => ?_))
      | exact ih0 _ _ _
      | exact LeO.none _
      | refine LeO.ite ?_ ?_
      | refine LeO.bind ?_ (fun _ => ?_)
set_option maxHeartbeats 8000000 in
set_option maxRecDepth 100000 in
theorem spec_l6Out.calls (k : Nat) (A0_0 : Option Addr) (c0_0 : Nat) (l0_0 : List (S83)) (r : ByteArray) (w : World) (hr0_0 : Kd.C k83 w A0_0 l0_0.length l0_0) (hc0_0 : l0_0.length ≤ c0_0) (h : spec_l6Out.f k l0_0 = some r) :
    Calls Try.prog 72 #[.agg #[.slice A0_0 l0_0.length c0_0]] w fun e w' => e = .returned (.string r) ∧ Below w.heap.size w w' := by
  have hu49 := Try.underlying49
  have HR0_0 := Aside0.mk hr0_0
  have HC0_0 := Aside0.mk hc0_0
  clear hr0_0 hc0_0
  have HB := Aside0.mk (Below.refl w.heap.size w)
  have H : (spec_l6Out.l0 k (([] : List Int)) 0 l0_0) = some r := h
  clear h
  obtain ⟨y121, hy121⟩ : ∃ y_ : List Int, y_ = (([] : List Int)) := ⟨_, rfl⟩
  replace H : (spec_l6Out.l0 k y121 0 l0_0) = some r := by first | (rw [hy121]; with_reducible exact H) | (have H2_ := (Option.bind_some _ _).symm.trans H; rw [hy121]; with_reducible exact H2_) | (have H2_ := (Option.bind_some _ _).symm.trans H; with_reducible exact H2_) | with_reducible exact H | (rw [hy121]; exact H) | exact H
  have Ny121 := Aside0.mk hy121
  clear hy121
  have H' := Aside0.mk H
  clear H
  go_enter Try.func72, Try.ntmps72
  go_wp2_with (first | ((with_reducible refine gate_dst (N := 1) rfl ?_); refine box_event ?hg (N := 1) ?hd (cs := #[.slice A0_0 l0_0.length c0_0]) (t := 49) ?hr ?_; (case hd => rfl); (case hg => rfl); (case hr => first | (go_simp; done) | (go_simp; rfl)); intro gb120 hg w2 hbox hb; have n0_ := Aside0.mk (below_step (by repeat (first | (with_reducible first | exact HB.out | apply below_alloc | apply pw_below_drewN | apply below_drew1) | exact HB.out)) hb); have n1_ := Aside0.mk (hbox); have n2_ := Aside0.mk ((by rw [hg]; exact (below_size (by repeat (first | (with_reducible first | exact HB.out | apply below_alloc | apply pw_below_drewN | apply below_drew1) | exact HB.out))) : w.heap.size ≤ gb120)); have n3_ := Aside0.mk ((by rw [hg]; exact (below_size (by repeat (first | (with_reducible first | exact HB.out | apply below_alloc | apply pw_below_drewN | apply below_drew1) | exact HB.out))) : w.heap.size ≤ gb120)); clear HB; have HB := n0_; have BK120 := n1_; have GW120 := n2_; have GE120 := n3_; clear n0_ n1_ n2_ n3_; clear hb hbox hg) | ((with_reducible refine gate_dst (N := 5) rfl ?_); refine Kd.R_lit (Kd.int .u8) _ 5 ?hg (N := 5) ?hd (xs := ([] : List Int)) (inner := []) (ok := fun _ => True) (okp := fun _ => True) ?hr ?hp (fun _ hk => hk) trivial (Below.refl _ _) (Nat.le_refl _) (by simp) ?_; (case hd => rfl); (case hg => rfl); (case hr => first | (go_simp; done) | (go_simp; rfl)); (case hp => exact (Reps.none _ _)); intro v122 w3 ho4 hb hg_ hnew_; clear hg_ hnew_; (first | rw [← Ny121.out] at ho4 | (simp only [Int.reduceToNat] at ho4; rw [← Ny121.out] at ho4)); have n0_ := Aside0.mk (Kd.R_lower ho4 (below_size (by repeat (first | (with_reducible first | exact HB.out | apply below_alloc | apply pw_below_drewN | apply below_drew1 | refine below_set ?_ GE120.out) | exact HB.out)))); have n1_ := Aside0.mk (blk_below (g := gb120) (o := .cells #[.slice A0_0 l0_0.length c0_0] 49 (0, 0)) (by (with_reducible repeat (first | refine blk_drewN ?_ _ | refine blk_drew ?_ | refine blk_alloc ?_ _)); exact BK120.out) hb); have n2_ := Aside0.mk (below_step (by repeat (first | (with_reducible first | exact HB.out | apply below_alloc | apply pw_below_drewN | apply below_drew1 | refine below_set ?_ GE120.out) | exact HB.out)) hb); clear BK120; clear HB; have HO123 := n0_; have BK120 := n1_; have HB := n2_; clear n0_ n1_ n2_; clear hb ho4))
  go_loopg [3, 4] k (fun kq v3 v4 w' => ∃ (x3_1 : List Int) (x4_1 : Int), v4 = .int .i64 x4_1 ∧ Aside0 (spec_l6Out.l0 kq x3_1 x4_1 l0_0 = some r) ∧ Aside0 (kq ≤ k) ∧ Aside0 (Kd.R (Kd.int .u8) 5 w' w.heap.size (fun _ => True) v3 x3_1) ∧ Aside0 (w'.heap[gb120]? = some (.cells #[(.slice A0_0 l0_0.length c0_0)] 49 (0, 0))) ∧ Aside0 (Below w.heap.size w w'))
  case atStart => exact ⟨(y121), (0), (by first | rfl | (simp; done) | (simp [*]; done)), H', ⟨Nat.le_refl _⟩, ⟨by (with_reducible repeat (first | apply Kd.R_alloc | apply Kd.R_drewN | apply Kd.R_drew)); exact HO123.out⟩, ⟨by (with_reducible repeat (first | refine blk_drewN ?_ _ | refine blk_drew ?_ | refine blk_alloc ?_ _)); exact BK120.out⟩, ⟨by repeat (first | (with_reducible first | exact HB.out | apply below_alloc | apply pw_below_drewN | apply below_drew1 | refine below_set ?_ GE120.out) | exact HB.out)⟩⟩
  case round =>
    clear H'
    try clear p2
    obtain ⟨x3_1, x4_1, rfl, HA, HK1, HO_3, BK120, HB⟩ := hrel
    cases gk with
    | zero => exact absurd HA.out (by simp [spec_l6Out.l0])
    | succ k1 =>
      have H := HA.out
      clear HA
      simp only [spec_l6Out.l0] at H
      by_cases c5 : x4_1 < (l0_0.length : Int)
      · rw [if_pos c5] at H
        have c5b0 : decide (x4_1 < (l0_0.length : Int)) = true := decide_eq_true c5
        clear c5
        by_cases c6 : 0 ≤ x4_1
        · rw [if_pos c6] at H
          have c6b0 : decide (0 ≤ x4_1) = true := decide_eq_true c6
          clear c6
          by_cases c7 : ((rd_T83 l0_0 x4_1).f1) = 0
          · rw [if_pos c7] at H
            have c7b0 : (((rd_T83 l0_0 x4_1).f1) == 0) = true := beq_iff_eq.mpr c7
            have c7b1 : (((rd_T83 l0_0 x4_1).f1) != 0) = false := bne_eq_false_iff_eq.mpr c7
            clear c7
            have H' := Aside0.mk H
            clear H
            have hcz8_0 : wr.cell? ⟨gb120, 0, none⟩ = some (.slice A0_0 l0_0.length c0_0) := (blk_cell BK120.out 0).trans rfl
            have hfz8_0 := blk_frozen BK120.out 0
            have p124 : 0 ≤ (x4_1 : Int) := of_decide_eq_true (by first | (with_reducible assumption) | assumption)
            have q124 : x4_1 < (l0_0.length : Int) := of_decide_eq_true (by first | (with_reducible assumption) | assumption)
            obtain ⟨ad124, e124, hx124_0, hx124_1⟩ := at_T83 HR0_0.out x4_1 p124 q124
            cases e124
            replace hx124_0 := (HB.out.cell (World.block_lt_of_cell? w _ hx124_0)).trans hx124_0
            replace hx124_1 := (HB.out.cell (World.block_lt_of_cell? w _ hx124_1)).trans hx124_1
            replace p124 := eq_true p124
            replace q124 := eq_true q124
            go_wp2
            go_roundg k1
            case measure => have := HK1.out; omega
            case rel => exact ⟨(x3_1), (wrap64 (x4_1 + 1)), (by first | rfl | (simp; done) | (simp [*]; done)), H', ⟨by have := HK1.out; omega⟩, ⟨by (with_reducible repeat (first | apply Kd.R_alloc | apply Kd.R_drewN | apply Kd.R_drew)); exact HO_3.out⟩, ⟨by (with_reducible repeat (first | refine blk_drewN ?_ _ | refine blk_drew ?_ | refine blk_alloc ?_ _)); exact BK120.out⟩, ⟨by repeat (first | (with_reducible first | exact HB.out | apply below_alloc | apply pw_below_drewN | apply below_drew1 | refine below_set ?_ GE120.out) | exact HB.out)⟩⟩
          · rw [if_neg c7] at H
            have c7b0 : (((rd_T83 l0_0 x4_1).f1) == 0) = false := beq_eq_false_iff_ne.mpr c7
            have c7b1 : (((rd_T83 l0_0 x4_1).f1) != 0) = true := bne_iff_ne.mpr c7
            by_cases c9 : x3_1.length < 140737488355328
            · rw [if_pos c9] at H
              have LMc9 := Aside0.mk c9
              clear c9
              obtain ⟨y126, hy126⟩ : ∃ y_ : List Int, y_ = (x3_1 ++ [(rd_T83 l0_0 x4_1).f1]) := ⟨_, rfl⟩
              replace H : (spec_l6Out.l0 k1 y126 (wrap64 (x4_1 + 1)) l0_0) = some r := by first | (rw [hy126]; with_reducible exact H) | (have H2_ := (Option.bind_some _ _).symm.trans H; rw [hy126]; with_reducible exact H2_) | (have H2_ := (Option.bind_some _ _).symm.trans H; with_reducible exact H2_) | with_reducible exact H | (rw [hy126]; exact H) | exact H
              have Ny126 := Aside0.mk hy126
              clear hy126
              have H' := Aside0.mk H
              clear H
              have hcz10_0 : wr.cell? ⟨gb120, 0, none⟩ = some (.slice A0_0 l0_0.length c0_0) := (blk_cell BK120.out 0).trans rfl
              have hfz10_0 := blk_frozen BK120.out 0
              have p124 : 0 ≤ (x4_1 : Int) := of_decide_eq_true (by first | (with_reducible assumption) | assumption)
              have q124 : x4_1 < (l0_0.length : Int) := of_decide_eq_true (by first | (with_reducible assumption) | assumption)
              obtain ⟨ad124, e124, hx124_0, hx124_1⟩ := at_T83 HR0_0.out x4_1 p124 q124
              cases e124
              replace hx124_0 := (HB.out.cell (World.block_lt_of_cell? w _ hx124_0)).trans hx124_0
              replace hx124_1 := (HB.out.cell (World.block_lt_of_cell? w _ hx124_1)).trans hx124_1
              replace p124 := eq_true p124
              replace q124 := eq_true q124
              have p125 : 0 ≤ (x4_1 : Int) := of_decide_eq_true (by first | (with_reducible assumption) | assumption)
              have q125 : x4_1 < (l0_0.length : Int) := of_decide_eq_true (by first | (with_reducible assumption) | assumption)
              obtain ⟨ad125, e125, hx125_0, hx125_1⟩ := at_T83 HR0_0.out x4_1 p125 q125
              obtain rfl : ad124 = ad125 := (by injection e125)
              replace hx125_0 := (HB.out.cell (World.block_lt_of_cell? w _ hx125_0)).trans hx125_0
              replace hx125_1 := (HB.out.cell (World.block_lt_of_cell? w _ hx125_1)).trans hx125_1
              replace p125 := eq_true p125
              replace q125 := eq_true q125
              go_wp2_with (first | ((with_reducible refine gate_builtin (b := .append) (xs := #[.tmp 20, .tmp 27]) rfl ?_); at_builtin; refine Kd.R_append (Kd.int .u8) (w0 := w) w.heap.size rfl (.tmp 20) (.tmp 27) 100 5 (.int .u8 0) 1 rfl Try.underlying100 info5 rfl (by decide) (by omega) u3 x3_1 ((rd_T83 l0_0 x4_1).f1) [.int .u8 ((rd_T83 l0_0 x4_1).f1)] (fun _ => True) (fun _ => False) rfl rfl ?aP (fun _ hk => hk.elim) ?aF ?aO ?aB ?aS ?aL ?_; (case aP => exact rfl); (case aB => exact (by repeat (first | (with_reducible first | exact HB.out | apply below_alloc | apply pw_below_drewN | apply below_drew1 | refine below_set ?_ GE120.out) | exact HB.out))); (case aF => exact (fun _ _ => trivial)); (case aO => exact (by (with_reducible repeat (first | apply Kd.R_alloc | apply Kd.R_drewN | apply Kd.R_drew)); exact HO_3.out)); (case aS => exact (below_size (by repeat (first | (with_reducible first | exact HB.out | apply below_alloc | apply pw_below_drewN | apply below_drew1 | refine below_set ?_ GE120.out) | exact HB.out)))); (case aL => have := LMc9.out; omega); intro v127 w11 ho hb hg hat; rw [← Ny126.out] at ho; have n0_ := Aside0.mk (blk_grown (g := gb120) (o := .cells #[.slice (some ad124) l0_0.length c0_0] 49 (0, 0)) (by (with_reducible repeat (first | refine blk_drewN ?_ _ | refine blk_drew ?_ | refine blk_alloc ?_ _)); exact BK120.out) hg (Kd.R_ne HO_3.out BK120.out (by decide))); have n1_ := Aside0.mk (hb); have n2_ := Aside0.mk (ho); clear BK120; clear HB; clear HO_3; have BK120 := n0_; have HB := n1_; have HO128 := n2_; clear n0_ n1_ n2_; clear ho hb hg hat))
              go_roundg k1
              case measure => have := HK1.out; omega
              case rel => exact ⟨(y126), (wrap64 (x4_1 + 1)), (by first | rfl | (simp; done) | (simp [*]; done)), H', ⟨by have := HK1.out; omega⟩, ⟨by (with_reducible repeat (first | apply Kd.R_alloc | apply Kd.R_drewN | apply Kd.R_drew)); exact HO128.out⟩, ⟨by (with_reducible repeat (first | refine blk_drewN ?_ _ | refine blk_drew ?_ | refine blk_alloc ?_ _)); exact BK120.out⟩, ⟨by repeat (first | (with_reducible first | exact HB.out | apply below_alloc | apply pw_below_drewN | apply below_drew1 | refine below_set ?_ GE120.out) | exact HB.out)⟩⟩
            · rw [if_neg c9] at H
              exact absurd H (by simp)
        · rw [if_neg c6] at H
          exact absurd H (by simp)
      · rw [if_neg c5] at H
        have c5b0 : decide (x4_1 < (l0_0.length : Int)) = false := decide_eq_false c5
        clear c5
        obtain rfl := Option.some.inj H
        have hcz12_0 : wr.cell? ⟨gb120, 0, none⟩ = some (.slice A0_0 l0_0.length c0_0) := (blk_cell BK120.out 0).trans rfl
        have hfz12_0 := blk_frozen BK120.out 0
        have hcv13 := own_string (P := Try.prog) Try.underlying100 Try.underlying5 Try.underlying9 (Kd.own_of_R HO_3.out)
        go_wp2
        go_ret
        exact ⟨by first | rfl | (simp [errW_none, errW_some] <;> rfl) | (simp [*, errW_none, errW_some] <;> rfl), by repeat (first | (with_reducible first | exact HB.out | apply below_alloc | apply pw_below_drewN | apply below_drew1 | refine below_set ?_ GE120.out) | exact HB.out)⟩

/-! ### spec_IsCandidate: function 28 -/
mutual
def spec_IsCandidate.l0 : Nat → Int → List (S83) → Option (Bool)
  | 0, _, _ => none
  | k + 1, x3, x130000 => if x3 < (x130000.length : Int) then (if 0 ≤ x3 then ((spec_SwapVoice.f ((rd_T83 x130000 x3).f0)).bind fun bt132 => (if ((rd_T83 x130000 x3).f0) = 0 then (if ((rd_T83 x130000 x3).f1) = 0 then (spec_IsCandidate.j1 k x3 bt132.1 bt132.2 (((rd_T83 x130000 x3).f1) == 0) x130000 ((rd_T83 x130000 x3).f0) ((rd_T83 x130000 x3).f1)) else ((spec_IsSound.f k ((rd_T83 x130000 x3).f1)).bind fun t134 => (if t134 = true then (spec_IsCandidate.j1 k x3 bt132.1 bt132.2 (((rd_T83 x130000 x3).f1) == 0) x130000 ((rd_T83 x130000 x3).f0) ((rd_T83 x130000 x3).f1)) else (spec_IsCandidate.j1 k x3 bt132.1 bt132.2 true x130000 ((rd_T83 x130000 x3).f0) ((rd_T83 x130000 x3).f1))))) else ((spec_IsSound.f k ((rd_T83 x130000 x3).f0)).bind fun t135 => (if t135 = true then (if ((rd_T83 x130000 x3).f1) = 0 then (spec_IsCandidate.j1 k x3 bt132.1 bt132.2 false x130000 ((rd_T83 x130000 x3).f0) ((rd_T83 x130000 x3).f1)) else ((spec_IsSound.f k ((rd_T83 x130000 x3).f1)).bind fun t136 => (if t136 = true then (spec_IsCandidate.j1 k x3 bt132.1 bt132.2 false x130000 ((rd_T83 x130000 x3).f0) ((rd_T83 x130000 x3).f1)) else (spec_IsCandidate.j1 k x3 bt132.1 bt132.2 true x130000 ((rd_T83 x130000 x3).f0) ((rd_T83 x130000 x3).f1))))) else (spec_IsCandidate.j1 k x3 bt132.1 bt132.2 true x130000 ((rd_T83 x130000 x3).f0) ((rd_T83 x130000 x3).f1)))))) else (none)) else (if (x130000.length : Int) ≤ 16 then ((spec_l6In.f k x130000).bind fun t137 => ((spec_IsForm.f k t137).bind fun t138 => (if t138 = true then ((spec_l6Out.f k x130000).bind fun t139 => ((spec_IsForm.f k t139).bind fun t140 => (some t140))) else (some false)))) else (some false))
def spec_IsCandidate.j1 : Nat → Int → Int → Bool → Bool → List (S83) → Int → Int → Option (Bool)
  | 0, _, _, _, _, _, _, _ => none
  | k + 1, x3, x5, x6, x54, x130000, x132000, x132001 => if x54 = true then (some false) else (if x132000 = 0 then (spec_IsCandidate.l0 k (wrap64 (x3 + 1)) x130000) else (if x132001 = 0 then (spec_IsCandidate.l0 k (wrap64 (x3 + 1)) x130000) else (if x132000 = x132001 then (spec_IsCandidate.l0 k (wrap64 (x3 + 1)) x130000) else (if x6 = true then (if x5 = x132001 then (spec_IsCandidate.l0 k (wrap64 (x3 + 1)) x130000) else (some false)) else (some false)))))
end
def spec_IsCandidate.f (k : Nat) (l0_0 : List (S83)) : Option (Bool) := spec_IsCandidate.l0 k 0 l0_0
theorem spec_IsCandidate.mono_l : ∀ k, (∀ y0 y1, LeO (spec_IsCandidate.l0 k y0 y1) (spec_IsCandidate.l0 (k + 1) y0 y1)) ∧ (∀ y0 y1 y2 y3 y4 y5 y6, LeO (spec_IsCandidate.j1 k y0 y1 y2 y3 y4 y5 y6) (spec_IsCandidate.j1 (k + 1) y0 y1 y2 y3 y4 y5 y6))
  | 0 => ⟨fun _ _ r h => by simp [spec_IsCandidate.l0] at h, fun _ _ _ _ _ _ _ r h => by simp [spec_IsCandidate.j1] at h⟩
  | k + 1 => by
    obtain ⟨ih0, ih1⟩ := spec_IsCandidate.mono_l k
    refine ⟨?_, ?_⟩
    · intro y0 y1
      unfold spec_IsCandidate.l0
      repeat' first
      | (with_reducible exact ih0 _ _)
      | (with_reducible exact ih1 _ _ _ _ _ _ _)
      | (with_reducible exact spec_IsForm.mono _ _)
      | (with_reducible exact spec_IsSound.mono _ _)
      | (with_reducible exact spec_l6In.mono _ _)
      | (with_reducible exact spec_l6Out.mono _ _)
      | (with_reducible exact LeO.refl _)
      | (with_reducible exact LeO.none _)
      | (with_reducible refine LeO.ite ?_ ?_)
      | (with_reducible refine LeO.bind ?_ (fun _ => ?_))
      | exact ih0 _ _
      | exact ih1 _ _ _ _ _ _ _
      | exact spec_IsForm.mono _ _
      | exact spec_IsSound.mono _ _
      | exact spec_l6In.mono _ _
      | exact spec_l6Out.mono _ _
      | exact LeO.none _
      | refine LeO.ite ?_ ?_
      | refine LeO.bind ?_ (fun _ => ?_)
    · intro y0 y1 y2 y3 y4 y5 y6
      unfold spec_IsCandidate.j1
      repeat' first
      | (with_reducible exact ih0 _ _)
      | (with_reducible exact ih1 _ _ _ _ _ _ _)
      | (with_reducible exact spec_IsForm.mono _ _)
      | (with_reducible exact spec_IsSound.mono _ _)
      | (with_reducible exact spec_l6In.mono _ _)
      | (with_reducible exact spec_l6Out.mono _ _)
      | (with_reducible exact LeO.refl _)
      | (with_reducible exact LeO.none _)
      | (with_reducible refine LeO.ite ?_ ?_)
      | (with_reducible refine LeO.bind ?_ (fun _ => ?_))
      | exact ih0 _ _
      | exact ih1 _ _ _ _ _ _ _
      | exact spec_IsForm.mono _ _
      | exact spec_IsSound.mono _ _
      | exact spec_l6In.mono _ _
      | exact spec_l6Out.mono _ _
      | exact LeO.none _
      | refine LeO.ite ?_ ?_
      | refine LeO.bind ?_ (fun _ => ?_)
theorem spec_IsCandidate.mono : ∀ a0 k, LeO (spec_IsCandidate.f k a0) (spec_IsCandidate.f (k + 1) a0) := by
  intro a0 k
  obtain ⟨ih0, ih1⟩ := spec_IsCandidate.mono_l k
  unfold spec_IsCandidate.f
  repeat' first
      | (with_reducible exact ih0 _ _)
      | (with_reducible exact ih1 _ _ _ _ _ _ _)
      | (with_reducible exact spec_IsForm.mono _ _)
      | (with_reducible exact spec_IsSound.mono _ _)
      | (with_reducible exact spec_l6In.mono _ _)
      | (with_reducible exact spec_l6Out.mono _ _)
      | (with_reducible exact LeO.refl _)
      | (with_reducible exact LeO.none _)
      | (with_reducible refine LeO.ite ?_ ?_)
      | (with_reducible refine LeO.bind ?_ (fun _ => ?_))
      | exact ih0 _ _
      | exact ih1 _ _ _ _ _ _ _
      | exact spec_IsForm.mono _ _
      | exact spec_IsSound.mono _ _
      | exact spec_l6In.mono _ _
      | exact spec_l6Out.mono _ _
      | exact LeO.none _
      | refine LeO.ite ?_ ?_
      | refine LeO.bind ?_ (fun _ => ?_)
set_option maxHeartbeats 8000000 in
set_option maxRecDepth 100000 in
theorem spec_IsCandidate.calls (k : Nat) (A0_0 : Option Addr) (c0_0 : Nat) (l0_0 : List (S83)) (r : Bool) (w : World) (hr0_0 : Kd.C k83 w A0_0 l0_0.length l0_0) (hc0_0 : l0_0.length ≤ c0_0) (h : spec_IsCandidate.f k l0_0 = some r) :
    Calls Try.prog 28 #[.agg #[.slice A0_0 l0_0.length c0_0]] w fun e w' => e = .returned (.bool r) ∧ Below w.heap.size w w' := by
  have hu49 := Try.underlying49
  have hu83 := Try.underlying83
  have HR0_0 := Aside0.mk hr0_0
  have HC0_0 := Aside0.mk hc0_0
  clear hr0_0 hc0_0
  have HB := Aside0.mk (Below.refl w.heap.size w)
  have H : (spec_IsCandidate.l0 k 0 l0_0) = some r := h
  clear h
  have H' := Aside0.mk H
  clear H
  go_enter Try.func28, Try.ntmps28
  go_wp2_with (first | ((with_reducible refine gate_dst (N := 1) rfl ?_); refine box_event ?hg (N := 1) ?hd (cs := #[.slice A0_0 l0_0.length c0_0]) (t := 49) ?hr ?_; (case hd => rfl); (case hg => rfl); (case hr => first | (go_simp; done) | (go_simp; rfl)); intro gb129 hg w2 hbox hb; have n0_ := Aside0.mk (below_step (by repeat (first | (with_reducible first | exact HB.out | apply below_alloc | apply pw_below_drewN | apply below_drew1) | exact HB.out)) hb); have n1_ := Aside0.mk (hbox); have n2_ := Aside0.mk ((by rw [hg]; exact (below_size (by repeat (first | (with_reducible first | exact HB.out | apply below_alloc | apply pw_below_drewN | apply below_drew1) | exact HB.out))) : w.heap.size ≤ gb129)); have n3_ := Aside0.mk ((by rw [hg]; exact (below_size (by repeat (first | (with_reducible first | exact HB.out | apply below_alloc | apply pw_below_drewN | apply below_drew1) | exact HB.out))) : w.heap.size ≤ gb129)); clear HB; have HB := n0_; have BK129 := n1_; have GW129 := n2_; have GE129 := n3_; clear n0_ n1_ n2_ n3_; clear hb hbox hg))
  go_loopg [3] k (fun kq v3 w' => ∃ (x3_1 : Int), v3 = .int .i64 x3_1 ∧ Aside0 (spec_IsCandidate.l0 kq x3_1 l0_0 = some r) ∧ Aside0 (kq ≤ k) ∧ Aside0 (w'.heap[gb129]? = some (.cells #[(.slice A0_0 l0_0.length c0_0)] 49 (0, 0))) ∧ Aside0 (Below w.heap.size w w'))
  case atStart => exact ⟨(0), (by first | rfl | (simp; done) | (simp [*]; done)), H', ⟨Nat.le_refl _⟩, ⟨by (with_reducible repeat (first | refine blk_drewN ?_ _ | refine blk_drew ?_ | refine blk_alloc ?_ _)); exact BK129.out⟩, ⟨by repeat (first | (with_reducible first | exact HB.out | apply below_alloc | apply pw_below_drewN | apply below_drew1 | refine below_set ?_ GE129.out) | exact HB.out)⟩⟩
  case round =>
    clear H'
    try clear c2
    try clear p2
    obtain ⟨x3_1, rfl, HA, HK1, BK129, HB⟩ := hrel
    cases gk with
    | zero => exact absurd HA.out (by simp [spec_IsCandidate.l0])
    | succ k1 =>
      have H := HA.out
      clear HA
      simp only [spec_IsCandidate.l0] at H
      by_cases c3 : x3_1 < (l0_0.length : Int)
      · rw [if_pos c3] at H
        have c3b0 : decide (x3_1 < (l0_0.length : Int)) = true := decide_eq_true c3
        clear c3
        by_cases c4 : 0 ≤ x3_1
        · rw [if_pos c4] at H
          have c4b0 : decide (0 ≤ x3_1) = true := decide_eq_true c4
          clear c4
          replace H := Option.bind_eq_some_iff.mp H
          obtain ⟨⟨t132, t133⟩, A50, H⟩ := H
          replace H : (if ((rd_T83 l0_0 x3_1).f0) = 0 then (if ((rd_T83 l0_0 x3_1).f1) = 0 then (spec_IsCandidate.j1 k1 x3_1 t132 t133 (((rd_T83 l0_0 x3_1).f1) == 0) l0_0 ((rd_T83 l0_0 x3_1).f0) ((rd_T83 l0_0 x3_1).f1)) else ((spec_IsSound.f k1 ((rd_T83 l0_0 x3_1).f1)).bind fun t134 => (if t134 = true then (spec_IsCandidate.j1 k1 x3_1 t132 t133 (((rd_T83 l0_0 x3_1).f1) == 0) l0_0 ((rd_T83 l0_0 x3_1).f0) ((rd_T83 l0_0 x3_1).f1)) else (spec_IsCandidate.j1 k1 x3_1 t132 t133 true l0_0 ((rd_T83 l0_0 x3_1).f0) ((rd_T83 l0_0 x3_1).f1))))) else ((spec_IsSound.f k1 ((rd_T83 l0_0 x3_1).f0)).bind fun t135 => (if t135 = true then (if ((rd_T83 l0_0 x3_1).f1) = 0 then (spec_IsCandidate.j1 k1 x3_1 t132 t133 false l0_0 ((rd_T83 l0_0 x3_1).f0) ((rd_T83 l0_0 x3_1).f1)) else ((spec_IsSound.f k1 ((rd_T83 l0_0 x3_1).f1)).bind fun t136 => (if t136 = true then (spec_IsCandidate.j1 k1 x3_1 t132 t133 false l0_0 ((rd_T83 l0_0 x3_1).f0) ((rd_T83 l0_0 x3_1).f1)) else (spec_IsCandidate.j1 k1 x3_1 t132 t133 true l0_0 ((rd_T83 l0_0 x3_1).f0) ((rd_T83 l0_0 x3_1).f1))))) else (spec_IsCandidate.j1 k1 x3_1 t132 t133 true l0_0 ((rd_T83 l0_0 x3_1).f0) ((rd_T83 l0_0 x3_1).f1))))) = some r := H
          have A5 := Aside0.mk A50
          clear A50
          have HC6 := Aside0.mk H
          clear H
          have hcz7_0 : wr.cell? ⟨gb129, 0, none⟩ = some (.slice A0_0 l0_0.length c0_0) := (blk_cell BK129.out 0).trans rfl
          have hfz7_0 := blk_frozen BK129.out 0
          have p130 : 0 ≤ (x3_1 : Int) := of_decide_eq_true (by first | (with_reducible assumption) | assumption)
          have q130 : x3_1 < (l0_0.length : Int) := of_decide_eq_true (by first | (with_reducible assumption) | assumption)
          obtain ⟨ad130, e130, hx130_0, hx130_1⟩ := at_T83 HR0_0.out x3_1 p130 q130
          cases e130
          replace hx130_0 := (HB.out.cell (World.block_lt_of_cell? w _ hx130_0)).trans hx130_0
          replace hx130_1 := (HB.out.cell (World.block_lt_of_cell? w _ hx130_1)).trans hx130_1
          replace p130 := eq_true p130
          replace q130 := eq_true q130
          go_upto_region 6 with (first | ((with_reducible refine gate_dst (N := 4) rfl ?_); refine box_event ?hg (N := 4) ?hd (cs := #[.int .u8 0, .int .u8 0]) (t := 83) ?hr ?_; (case hd => rfl); (case hg => rfl); (case hr => first | (go_simp; done) | (go_simp; rfl)); intro gb131 hg w8 hbox hb; have n0_ := Aside0.mk (blk_below (g := gb129) (o := .cells #[.slice (some ad130) l0_0.length c0_0] 49 (0, 0)) (by (with_reducible repeat (first | refine blk_drewN ?_ _ | refine blk_drew ?_ | refine blk_alloc ?_ _)); exact BK129.out) hb); have n1_ := Aside0.mk (below_step (by repeat (first | (with_reducible first | exact HB.out | apply below_alloc | apply pw_below_drewN | apply below_drew1 | refine below_set ?_ GE129.out) | exact HB.out)) hb); have n2_ := Aside0.mk (hbox); have n3_ := Aside0.mk ((by rw [hg]; exact (below_size (by repeat (first | (with_reducible first | exact HB.out | apply below_alloc | apply pw_below_drewN | apply below_drew1 | refine below_set ?_ GE129.out) | exact HB.out))) : w.heap.size ≤ gb131)); have n4_ := Aside0.mk ((by rw [hg]; exact (below_size (by repeat (first | (with_reducible first | exact HB.out | apply below_alloc | apply pw_below_drewN | apply below_drew1 | refine below_set ?_ GE129.out) | exact HB.out))) : w.heap.size ≤ gb131)); have n5_ := Aside0.mk ((by rw [hg]; exact Nat.ne_of_lt (blk_lt (g := gb129) (o := .cells #[.slice (some ad130) l0_0.length c0_0] 49 (0, 0)) (by (with_reducible repeat (first | refine blk_drewN ?_ _ | refine blk_drew ?_ | refine blk_alloc ?_ _)); exact BK129.out)) : gb129 ≠ gb131)); have n6_ := Aside0.mk ((by rw [hg]; exact Nat.ne_of_gt (blk_lt (g := gb129) (o := .cells #[.slice (some ad130) l0_0.length c0_0] 49 (0, 0)) (by (with_reducible repeat (first | refine blk_drewN ?_ _ | refine blk_drew ?_ | refine blk_alloc ?_ _)); exact BK129.out)) : gb131 ≠ gb129)); clear BK129; clear HB; have BK129 := n0_; have HB := n1_; have BK131 := n2_; have GW131 := n3_; have GE131 := n4_; have NB129_131 := n5_; have NB131_129 := n6_; clear n0_ n1_ n2_ n3_ n4_ n5_ n6_; clear hb hbox hg; have hnb9 := NB131_129.out; have hnc9 := NB129_131.out; have hcz10_0 : w8.cell? ⟨gb131, 0, none⟩ = some (.int .u8 0) := (blk_cell BK131.out 0).trans rfl; have hcz10_1 : w8.cell? ⟨gb131, 1, none⟩ = some (.int .u8 0) := (blk_cell BK131.out 1).trans rfl; have hfz10_0 := blk_frozen BK131.out 0; have hfz10_1 := blk_frozen BK131.out 1) | ((with_reducible refine gate_callee (f := 68) rfl ?_); refine goesL_ (some 22) rfl rfl Try.func68 (by kernel_rfl) rfl #[.int .u8 ((rd_T83 l0_0 x3_1).f0)] rfl (by (try simp only [List.map_toArray, List.map_cons, List.map_nil]); first | done | rfl | (simp only [List.length_drop, List.length_take]; rfl)) ?_; (with_reducible refine (spec_SwapVoice.calls ((rd_T83 l0_0 x3_1).f0) t132 t133 _ A5.out).mono ?_); rintro e w' ⟨rfl, ⟨nd, rfl⟩⟩; refine ⟨_, rfl, ?_⟩))
          (try simp only [Act.put, List.setIfInBounds_toArray, List.set_cons_zero, List.set_cons_succ])
          go_cut [54] (fun v54 wc => ∃ (kq : Nat) (x54_5 : Bool), v54 = .bool x54_5 ∧ Aside0 (spec_IsCandidate.j1 kq x3_1 t132 t133 x54_5 l0_0 ((rd_T83 l0_0 x3_1).f0) ((rd_T83 l0_0 x3_1).f1) = some r) ∧ Aside0 (kq ≤ k1) ∧ Aside0 (wc.heap[gb129]? = some (.cells #[(.slice (some ad130) l0_0.length c0_0)] 49 (0, 0))) ∧ Aside0 (wc.heap[gb131]? = some (.cells #[.int .u8 ((rd_T83 l0_0 x3_1).f0), .int .u8 ((rd_T83 l0_0 x3_1).f1)] 83 (0, 0))) ∧ Aside0 (Below w.heap.size w wc))
          case first =>
            have H := HC6.out
            clear HC6
            by_cases c11 : ((rd_T83 l0_0 x3_1).f0) = 0
            · rw [if_pos c11] at H
              have c11b0 : (((rd_T83 l0_0 x3_1).f0) == 0) = true := beq_iff_eq.mpr c11
              have c11b1 : (((rd_T83 l0_0 x3_1).f0) != 0) = false := bne_eq_false_iff_eq.mpr c11
              clear c11
              (first | rw [c11b0] | (simp only [i64_w, i32_w]; rw [c11b0]) | skip)
              by_cases c12 : ((rd_T83 l0_0 x3_1).f1) = 0
              · rw [if_pos c12] at H
                have c12b0 : (((rd_T83 l0_0 x3_1).f1) == 0) = true := beq_iff_eq.mpr c12
                have c12b1 : (((rd_T83 l0_0 x3_1).f1) != 0) = false := bne_eq_false_iff_eq.mpr c12
                clear c12
                have H' := Aside0.mk H
                clear H
                have hnb13 := NB131_129.out
                have hnc13 := NB129_131.out
                have hcz14_0 : w8.cell? ⟨gb131, 0, none⟩ = some (.int .u8 0) := (blk_cell BK131.out 0).trans rfl
                have hcz14_1 : w8.cell? ⟨gb131, 1, none⟩ = some (.int .u8 0) := (blk_cell BK131.out 1).trans rfl
                have hfz14_0 := blk_frozen BK131.out 0
                have hfz14_1 := blk_frozen BK131.out 1
                go_wp2
                go_meet
                case rel => exact ⟨_, ((((rd_T83 l0_0 x3_1).f1) == 0)), (by first | rfl | (simp; done) | (simp [*]; done)), H', ⟨by have := HK1.out; first | omega | exact Nat.le_refl _⟩, ⟨by (with_reducible repeat (first | refine blk_drewN ?_ _ | refine blk_drew ?_ | refine blk_alloc ?_ _)); refine blk_far ?_ NB129_131.out _; (with_reducible repeat (first | refine blk_drewN ?_ _ | refine blk_drew ?_ | refine blk_alloc ?_ _)); refine blk_far ?_ NB129_131.out _; (with_reducible repeat (first | refine blk_drewN ?_ _ | refine blk_drew ?_ | refine blk_alloc ?_ _)); exact BK129.out⟩, ⟨by (with_reducible repeat (first | refine blk_drewN ?_ _ | refine blk_drew ?_ | refine blk_alloc ?_ _)); refine blk_put (cs := #[.int .u8 ((rd_T83 l0_0 x3_1).f0), .int .u8 0]) ?_ 1 _ rfl; (with_reducible repeat (first | refine blk_drewN ?_ _ | refine blk_drew ?_ | refine blk_alloc ?_ _)); refine blk_put (cs := #[.int .u8 0, .int .u8 0]) ?_ 0 _ rfl; (with_reducible repeat (first | refine blk_drewN ?_ _ | refine blk_drew ?_ | refine blk_alloc ?_ _)); exact BK131.out⟩, ⟨by repeat (first | (with_reducible first | exact HB.out | apply below_alloc | apply pw_below_drewN | apply below_drew1 | refine below_set ?_ GE129.out | refine below_set ?_ GE131.out) | exact HB.out)⟩⟩
              · rw [if_neg c12] at H
                have c12b0 : (((rd_T83 l0_0 x3_1).f1) == 0) = false := beq_eq_false_iff_ne.mpr c12
                have c12b1 : (((rd_T83 l0_0 x3_1).f1) != 0) = true := bne_iff_ne.mpr c12
                replace H := Option.bind_eq_some_iff.mp H
                obtain ⟨t134, A150, H⟩ := H
                replace H : (if t134 = true then (spec_IsCandidate.j1 k1 x3_1 t132 t133 (((rd_T83 l0_0 x3_1).f1) == 0) l0_0 ((rd_T83 l0_0 x3_1).f0) ((rd_T83 l0_0 x3_1).f1)) else (spec_IsCandidate.j1 k1 x3_1 t132 t133 true l0_0 ((rd_T83 l0_0 x3_1).f0) ((rd_T83 l0_0 x3_1).f1))) = some r := H
                have A15 := Aside0.mk A150
                clear A150
                by_cases c16 : t134 = true
                · subst c16
                  have H1 : (spec_IsCandidate.j1 k1 x3_1 t132 t133 (((rd_T83 l0_0 x3_1).f1) == 0) l0_0 ((rd_T83 l0_0 x3_1).f0) ((rd_T83 l0_0 x3_1).f1)) = some r := by rw [if_pos rfl] at H; exact H
                  clear H
                  have H := H1
                  clear H1
                  have H' := Aside0.mk H
                  clear H
                  have hnb17 := NB131_129.out
                  have hnc17 := NB129_131.out
                  have hcz18_0 : w8.cell? ⟨gb131, 0, none⟩ = some (.int .u8 0) := (blk_cell BK131.out 0).trans rfl
                  have hcz18_1 : w8.cell? ⟨gb131, 1, none⟩ = some (.int .u8 0) := (blk_cell BK131.out 1).trans rfl
                  have hfz18_0 := blk_frozen BK131.out 0
                  have hfz18_1 := blk_frozen BK131.out 1
                  go_wp2_with (first | (go_at_call 69; (with_reducible refine (spec_IsSound.calls k1 ((rd_T83 l0_0 x3_1).f1) true _ A15.out).mono ?_); rintro e w' ⟨rfl, ⟨nd, rfl⟩⟩))
                  go_meet
                  case rel => exact ⟨_, ((((rd_T83 l0_0 x3_1).f1) == 0)), (by first | rfl | (simp; done) | (simp [*]; done)), H', ⟨by have := HK1.out; first | omega | exact Nat.le_refl _⟩, ⟨by (with_reducible repeat (first | refine blk_drewN ?_ _ | refine blk_drew ?_ | refine blk_alloc ?_ _)); refine blk_far ?_ NB129_131.out _; (with_reducible repeat (first | refine blk_drewN ?_ _ | refine blk_drew ?_ | refine blk_alloc ?_ _)); refine blk_far ?_ NB129_131.out _; (with_reducible repeat (first | refine blk_drewN ?_ _ | refine blk_drew ?_ | refine blk_alloc ?_ _)); exact BK129.out⟩, ⟨by (with_reducible repeat (first | refine blk_drewN ?_ _ | refine blk_drew ?_ | refine blk_alloc ?_ _)); refine blk_put (cs := #[.int .u8 ((rd_T83 l0_0 x3_1).f0), .int .u8 0]) ?_ 1 _ rfl; (with_reducible repeat (first | refine blk_drewN ?_ _ | refine blk_drew ?_ | refine blk_alloc ?_ _)); refine blk_put (cs := #[.int .u8 0, .int .u8 0]) ?_ 0 _ rfl; (with_reducible repeat (first | refine blk_drewN ?_ _ | refine blk_drew ?_ | refine blk_alloc ?_ _)); exact BK131.out⟩, ⟨by repeat (first | (with_reducible first | exact HB.out | apply below_alloc | apply pw_below_drewN | apply below_drew1 | refine below_set ?_ GE129.out | refine below_set ?_ GE131.out) | exact HB.out)⟩⟩
                · replace c16 := Bool.eq_false_iff.mpr c16
                  subst c16
                  have H1 : (spec_IsCandidate.j1 k1 x3_1 t132 t133 true l0_0 ((rd_T83 l0_0 x3_1).f0) ((rd_T83 l0_0 x3_1).f1)) = some r := by rw [if_neg (show ¬ (false = true) by decide)] at H; exact H
                  clear H
                  have H := H1
                  clear H1
                  have H' := Aside0.mk H
                  clear H
                  have hnb19 := NB131_129.out
                  have hnc19 := NB129_131.out
                  have hcz20_0 : w8.cell? ⟨gb131, 0, none⟩ = some (.int .u8 0) := (blk_cell BK131.out 0).trans rfl
                  have hcz20_1 : w8.cell? ⟨gb131, 1, none⟩ = some (.int .u8 0) := (blk_cell BK131.out 1).trans rfl
                  have hfz20_0 := blk_frozen BK131.out 0
                  have hfz20_1 := blk_frozen BK131.out 1
                  go_wp2_with (first | (go_at_call 69; (with_reducible refine (spec_IsSound.calls k1 ((rd_T83 l0_0 x3_1).f1) false _ A15.out).mono ?_); rintro e w' ⟨rfl, ⟨nd, rfl⟩⟩))
                  go_meet
                  case rel => exact ⟨_, (true), (by first | rfl | (simp; done) | (simp [*]; done)), H', ⟨by have := HK1.out; first | omega | exact Nat.le_refl _⟩, ⟨by (with_reducible repeat (first | refine blk_drewN ?_ _ | refine blk_drew ?_ | refine blk_alloc ?_ _)); refine blk_far ?_ NB129_131.out _; (with_reducible repeat (first | refine blk_drewN ?_ _ | refine blk_drew ?_ | refine blk_alloc ?_ _)); refine blk_far ?_ NB129_131.out _; (with_reducible repeat (first | refine blk_drewN ?_ _ | refine blk_drew ?_ | refine blk_alloc ?_ _)); exact BK129.out⟩, ⟨by (with_reducible repeat (first | refine blk_drewN ?_ _ | refine blk_drew ?_ | refine blk_alloc ?_ _)); refine blk_put (cs := #[.int .u8 ((rd_T83 l0_0 x3_1).f0), .int .u8 0]) ?_ 1 _ rfl; (with_reducible repeat (first | refine blk_drewN ?_ _ | refine blk_drew ?_ | refine blk_alloc ?_ _)); refine blk_put (cs := #[.int .u8 0, .int .u8 0]) ?_ 0 _ rfl; (with_reducible repeat (first | refine blk_drewN ?_ _ | refine blk_drew ?_ | refine blk_alloc ?_ _)); exact BK131.out⟩, ⟨by repeat (first | (with_reducible first | exact HB.out | apply below_alloc | apply pw_below_drewN | apply below_drew1 | refine below_set ?_ GE129.out | refine below_set ?_ GE131.out) | exact HB.out)⟩⟩
            · rw [if_neg c11] at H
              have c11b0 : (((rd_T83 l0_0 x3_1).f0) == 0) = false := beq_eq_false_iff_ne.mpr c11
              have c11b1 : (((rd_T83 l0_0 x3_1).f0) != 0) = true := bne_iff_ne.mpr c11
              (first | rw [c11b0] | (simp only [i64_w, i32_w]; rw [c11b0]) | skip)
              replace H := Option.bind_eq_some_iff.mp H
              obtain ⟨t135, A210, H⟩ := H
              replace H : (if t135 = true then (if ((rd_T83 l0_0 x3_1).f1) = 0 then (spec_IsCandidate.j1 k1 x3_1 t132 t133 false l0_0 ((rd_T83 l0_0 x3_1).f0) ((rd_T83 l0_0 x3_1).f1)) else ((spec_IsSound.f k1 ((rd_T83 l0_0 x3_1).f1)).bind fun t136 => (if t136 = true then (spec_IsCandidate.j1 k1 x3_1 t132 t133 false l0_0 ((rd_T83 l0_0 x3_1).f0) ((rd_T83 l0_0 x3_1).f1)) else (spec_IsCandidate.j1 k1 x3_1 t132 t133 true l0_0 ((rd_T83 l0_0 x3_1).f0) ((rd_T83 l0_0 x3_1).f1))))) else (spec_IsCandidate.j1 k1 x3_1 t132 t133 true l0_0 ((rd_T83 l0_0 x3_1).f0) ((rd_T83 l0_0 x3_1).f1))) = some r := H
              have A21 := Aside0.mk A210
              clear A210
              by_cases c22 : t135 = true
              · subst c22
                have H1 : (if ((rd_T83 l0_0 x3_1).f1) = 0 then (spec_IsCandidate.j1 k1 x3_1 t132 t133 false l0_0 ((rd_T83 l0_0 x3_1).f0) ((rd_T83 l0_0 x3_1).f1)) else ((spec_IsSound.f k1 ((rd_T83 l0_0 x3_1).f1)).bind fun t136 => (if t136 = true then (spec_IsCandidate.j1 k1 x3_1 t132 t133 false l0_0 ((rd_T83 l0_0 x3_1).f0) ((rd_T83 l0_0 x3_1).f1)) else (spec_IsCandidate.j1 k1 x3_1 t132 t133 true l0_0 ((rd_T83 l0_0 x3_1).f0) ((rd_T83 l0_0 x3_1).f1))))) = some r := by rw [if_pos rfl] at H; exact H
                clear H
                have H := H1
                clear H1
                by_cases c23 : ((rd_T83 l0_0 x3_1).f1) = 0
                · rw [if_pos c23] at H
                  have c23b0 : (((rd_T83 l0_0 x3_1).f1) == 0) = true := beq_iff_eq.mpr c23
                  have c23b1 : (((rd_T83 l0_0 x3_1).f1) != 0) = false := bne_eq_false_iff_eq.mpr c23
                  clear c23
                  have H' := Aside0.mk H
                  clear H
                  have hnb24 := NB131_129.out
                  have hnc24 := NB129_131.out
                  have hcz25_0 : w8.cell? ⟨gb131, 0, none⟩ = some (.int .u8 0) := (blk_cell BK131.out 0).trans rfl
                  have hcz25_1 : w8.cell? ⟨gb131, 1, none⟩ = some (.int .u8 0) := (blk_cell BK131.out 1).trans rfl
                  have hfz25_0 := blk_frozen BK131.out 0
                  have hfz25_1 := blk_frozen BK131.out 1
                  go_wp2_with (first | (go_at_call 69; (with_reducible refine (spec_IsSound.calls k1 ((rd_T83 l0_0 x3_1).f0) true _ A21.out).mono ?_); rintro e w' ⟨rfl, ⟨nd, rfl⟩⟩))
                  go_meet
                  case rel => exact ⟨_, (false), (by first | rfl | (simp; done) | (simp [*]; done)), H', ⟨by have := HK1.out; first | omega | exact Nat.le_refl _⟩, ⟨by (with_reducible repeat (first | refine blk_drewN ?_ _ | refine blk_drew ?_ | refine blk_alloc ?_ _)); refine blk_far ?_ NB129_131.out _; (with_reducible repeat (first | refine blk_drewN ?_ _ | refine blk_drew ?_ | refine blk_alloc ?_ _)); refine blk_far ?_ NB129_131.out _; (with_reducible repeat (first | refine blk_drewN ?_ _ | refine blk_drew ?_ | refine blk_alloc ?_ _)); exact BK129.out⟩, ⟨by (with_reducible repeat (first | refine blk_drewN ?_ _ | refine blk_drew ?_ | refine blk_alloc ?_ _)); refine blk_put (cs := #[.int .u8 ((rd_T83 l0_0 x3_1).f0), .int .u8 0]) ?_ 1 _ rfl; (with_reducible repeat (first | refine blk_drewN ?_ _ | refine blk_drew ?_ | refine blk_alloc ?_ _)); refine blk_put (cs := #[.int .u8 0, .int .u8 0]) ?_ 0 _ rfl; (with_reducible repeat (first | refine blk_drewN ?_ _ | refine blk_drew ?_ | refine blk_alloc ?_ _)); exact BK131.out⟩, ⟨by repeat (first | (with_reducible first | exact HB.out | apply below_alloc | apply pw_below_drewN | apply below_drew1 | refine below_set ?_ GE129.out | refine below_set ?_ GE131.out) | exact HB.out)⟩⟩
                · rw [if_neg c23] at H
                  have c23b0 : (((rd_T83 l0_0 x3_1).f1) == 0) = false := beq_eq_false_iff_ne.mpr c23
                  have c23b1 : (((rd_T83 l0_0 x3_1).f1) != 0) = true := bne_iff_ne.mpr c23
                  replace H := Option.bind_eq_some_iff.mp H
                  obtain ⟨t136, A260, H⟩ := H
                  replace H : (if t136 = true then (spec_IsCandidate.j1 k1 x3_1 t132 t133 false l0_0 ((rd_T83 l0_0 x3_1).f0) ((rd_T83 l0_0 x3_1).f1)) else (spec_IsCandidate.j1 k1 x3_1 t132 t133 true l0_0 ((rd_T83 l0_0 x3_1).f0) ((rd_T83 l0_0 x3_1).f1))) = some r := H
                  have A26 := Aside0.mk A260
                  clear A260
                  by_cases c27 : t136 = true
                  · subst c27
                    have H1 : (spec_IsCandidate.j1 k1 x3_1 t132 t133 false l0_0 ((rd_T83 l0_0 x3_1).f0) ((rd_T83 l0_0 x3_1).f1)) = some r := by rw [if_pos rfl] at H; exact H
                    clear H
                    have H := H1
                    clear H1
                    have H' := Aside0.mk H
                    clear H
                    have hnb28 := NB131_129.out
                    have hnc28 := NB129_131.out
                    have hcz29_0 : w8.cell? ⟨gb131, 0, none⟩ = some (.int .u8 0) := (blk_cell BK131.out 0).trans rfl
                    have hcz29_1 : w8.cell? ⟨gb131, 1, none⟩ = some (.int .u8 0) := (blk_cell BK131.out 1).trans rfl
                    have hfz29_0 := blk_frozen BK131.out 0
                    have hfz29_1 := blk_frozen BK131.out 1
                    go_wp2_with (first | (go_at_call 69; (with_reducible refine (spec_IsSound.calls k1 ((rd_T83 l0_0 x3_1).f0) true _ A21.out).mono ?_); rintro e w' ⟨rfl, ⟨nd, rfl⟩⟩) | (go_at_call 69; (with_reducible refine (spec_IsSound.calls k1 ((rd_T83 l0_0 x3_1).f1) true _ A26.out).mono ?_); rintro e w' ⟨rfl, ⟨nd, rfl⟩⟩))
                    go_meet
                    case rel => exact ⟨_, (false), (by first | rfl | (simp; done) | (simp [*]; done)), H', ⟨by have := HK1.out; first | omega | exact Nat.le_refl _⟩, ⟨by (with_reducible repeat (first | refine blk_drewN ?_ _ | refine blk_drew ?_ | refine blk_alloc ?_ _)); refine blk_far ?_ NB129_131.out _; (with_reducible repeat (first | refine blk_drewN ?_ _ | refine blk_drew ?_ | refine blk_alloc ?_ _)); refine blk_far ?_ NB129_131.out _; (with_reducible repeat (first | refine blk_drewN ?_ _ | refine blk_drew ?_ | refine blk_alloc ?_ _)); exact BK129.out⟩, ⟨by (with_reducible repeat (first | refine blk_drewN ?_ _ | refine blk_drew ?_ | refine blk_alloc ?_ _)); refine blk_put (cs := #[.int .u8 ((rd_T83 l0_0 x3_1).f0), .int .u8 0]) ?_ 1 _ rfl; (with_reducible repeat (first | refine blk_drewN ?_ _ | refine blk_drew ?_ | refine blk_alloc ?_ _)); refine blk_put (cs := #[.int .u8 0, .int .u8 0]) ?_ 0 _ rfl; (with_reducible repeat (first | refine blk_drewN ?_ _ | refine blk_drew ?_ | refine blk_alloc ?_ _)); exact BK131.out⟩, ⟨by repeat (first | (with_reducible first | exact HB.out | apply below_alloc | apply pw_below_drewN | apply below_drew1 | refine below_set ?_ GE129.out | refine below_set ?_ GE131.out) | exact HB.out)⟩⟩
                  · replace c27 := Bool.eq_false_iff.mpr c27
                    subst c27
                    have H1 : (spec_IsCandidate.j1 k1 x3_1 t132 t133 true l0_0 ((rd_T83 l0_0 x3_1).f0) ((rd_T83 l0_0 x3_1).f1)) = some r := by rw [if_neg (show ¬ (false = true) by decide)] at H; exact H
                    clear H
                    have H := H1
                    clear H1
                    have H' := Aside0.mk H
                    clear H
                    have hnb30 := NB131_129.out
                    have hnc30 := NB129_131.out
                    have hcz31_0 : w8.cell? ⟨gb131, 0, none⟩ = some (.int .u8 0) := (blk_cell BK131.out 0).trans rfl
                    have hcz31_1 : w8.cell? ⟨gb131, 1, none⟩ = some (.int .u8 0) := (blk_cell BK131.out 1).trans rfl
                    have hfz31_0 := blk_frozen BK131.out 0
                    have hfz31_1 := blk_frozen BK131.out 1
                    go_wp2_with (first | (go_at_call 69; (with_reducible refine (spec_IsSound.calls k1 ((rd_T83 l0_0 x3_1).f0) true _ A21.out).mono ?_); rintro e w' ⟨rfl, ⟨nd, rfl⟩⟩) | (go_at_call 69; (with_reducible refine (spec_IsSound.calls k1 ((rd_T83 l0_0 x3_1).f1) false _ A26.out).mono ?_); rintro e w' ⟨rfl, ⟨nd, rfl⟩⟩))
                    go_meet
                    case rel => exact ⟨_, (true), (by first | rfl | (simp; done) | (simp [*]; done)), H', ⟨by have := HK1.out; first | omega | exact Nat.le_refl _⟩, ⟨by (with_reducible repeat (first | refine blk_drewN ?_ _ | refine blk_drew ?_ | refine blk_alloc ?_ _)); refine blk_far ?_ NB129_131.out _; (with_reducible repeat (first | refine blk_drewN ?_ _ | refine blk_drew ?_ | refine blk_alloc ?_ _)); refine blk_far ?_ NB129_131.out _; (with_reducible repeat (first | refine blk_drewN ?_ _ | refine blk_drew ?_ | refine blk_alloc ?_ _)); exact BK129.out⟩, ⟨by (with_reducible repeat (first | refine blk_drewN ?_ _ | refine blk_drew ?_ | refine blk_alloc ?_ _)); refine blk_put (cs := #[.int .u8 ((rd_T83 l0_0 x3_1).f0), .int .u8 0]) ?_ 1 _ rfl; (with_reducible repeat (first | refine blk_drewN ?_ _ | refine blk_drew ?_ | refine blk_alloc ?_ _)); refine blk_put (cs := #[.int .u8 0, .int .u8 0]) ?_ 0 _ rfl; (with_reducible repeat (first | refine blk_drewN ?_ _ | refine blk_drew ?_ | refine blk_alloc ?_ _)); exact BK131.out⟩, ⟨by repeat (first | (with_reducible first | exact HB.out | apply below_alloc | apply pw_below_drewN | apply below_drew1 | refine below_set ?_ GE129.out | refine below_set ?_ GE131.out) | exact HB.out)⟩⟩
              · replace c22 := Bool.eq_false_iff.mpr c22
                subst c22
                have H1 : (spec_IsCandidate.j1 k1 x3_1 t132 t133 true l0_0 ((rd_T83 l0_0 x3_1).f0) ((rd_T83 l0_0 x3_1).f1)) = some r := by rw [if_neg (show ¬ (false = true) by decide)] at H; exact H
                clear H
                have H := H1
                clear H1
                have H' := Aside0.mk H
                clear H
                have hnb32 := NB131_129.out
                have hnc32 := NB129_131.out
                have hcz33_0 : w8.cell? ⟨gb131, 0, none⟩ = some (.int .u8 0) := (blk_cell BK131.out 0).trans rfl
                have hcz33_1 : w8.cell? ⟨gb131, 1, none⟩ = some (.int .u8 0) := (blk_cell BK131.out 1).trans rfl
                have hfz33_0 := blk_frozen BK131.out 0
                have hfz33_1 := blk_frozen BK131.out 1
                go_wp2_with (first | (go_at_call 69; (with_reducible refine (spec_IsSound.calls k1 ((rd_T83 l0_0 x3_1).f0) false _ A21.out).mono ?_); rintro e w' ⟨rfl, ⟨nd, rfl⟩⟩))
                go_meet
                case rel => exact ⟨_, (true), (by first | rfl | (simp; done) | (simp [*]; done)), H', ⟨by have := HK1.out; first | omega | exact Nat.le_refl _⟩, ⟨by (with_reducible repeat (first | refine blk_drewN ?_ _ | refine blk_drew ?_ | refine blk_alloc ?_ _)); refine blk_far ?_ NB129_131.out _; (with_reducible repeat (first | refine blk_drewN ?_ _ | refine blk_drew ?_ | refine blk_alloc ?_ _)); refine blk_far ?_ NB129_131.out _; (with_reducible repeat (first | refine blk_drewN ?_ _ | refine blk_drew ?_ | refine blk_alloc ?_ _)); exact BK129.out⟩, ⟨by (with_reducible repeat (first | refine blk_drewN ?_ _ | refine blk_drew ?_ | refine blk_alloc ?_ _)); refine blk_put (cs := #[.int .u8 ((rd_T83 l0_0 x3_1).f0), .int .u8 0]) ?_ 1 _ rfl; (with_reducible repeat (first | refine blk_drewN ?_ _ | refine blk_drew ?_ | refine blk_alloc ?_ _)); refine blk_put (cs := #[.int .u8 0, .int .u8 0]) ?_ 0 _ rfl; (with_reducible repeat (first | refine blk_drewN ?_ _ | refine blk_drew ?_ | refine blk_alloc ?_ _)); exact BK131.out⟩, ⟨by repeat (first | (with_reducible first | exact HB.out | apply below_alloc | apply pw_below_drewN | apply below_drew1 | refine below_set ?_ GE129.out | refine below_set ?_ GE131.out) | exact HB.out)⟩⟩
          case rest =>
            clear HC6
            try clear c1
            try clear p1
            try clear q1
            try clear hx1
            try clear c2
            try clear p2
            try clear c3
            try clear c3b0
            try clear c4
            try clear c4b0
            try clear c6
            try clear c9
            try clear c11
            try clear c11b0
            try clear c11b1
            try clear c12
            try clear c12b0
            try clear c12b1
            try clear c13
            try clear p13
            try clear q13
            try clear hx13
            try clear c16
            try clear c17
            try clear c19
            try clear c22
            try clear c23
            try clear c23b0
            try clear c23b1
            try clear c24
            try clear c27
            try clear c28
            try clear c30
            try clear c32
            try clear hcz10_0
            try clear hcz10_1
            try clear hcz14_0
            try clear hcz14_1
            try clear hcz18_0
            try clear hcz18_1
            try clear hcz20_0
            try clear hcz20_1
            try clear hcz25_0
            try clear hcz25_1
            try clear hcz29_0
            try clear hcz29_1
            try clear hcz31_0
            try clear hcz31_1
            try clear hcz33_0
            try clear hcz33_1
            try clear hcz7_0
            try clear hfz10_0
            try clear hfz10_1
            try clear hfz14_0
            try clear hfz14_1
            try clear hfz18_0
            try clear hfz18_1
            try clear hfz20_0
            try clear hfz20_1
            try clear hfz25_0
            try clear hfz25_1
            try clear hfz29_0
            try clear hfz29_1
            try clear hfz31_0
            try clear hfz31_1
            try clear hfz33_0
            try clear hfz33_1
            try clear hfz7_0
            try clear hx130_0
            try clear hx130_1
            try clear p130
            try clear p2
            try clear q130
            obtain ⟨kq, x54_5, rfl, HA, HJ5, BK129, BK131, HB⟩ := hcut
            cases kq with
            | zero => exact absurd HA.out (by simp [spec_IsCandidate.j1])
            | succ kj5 =>
              have H := HA.out
              clear HA
              simp only [spec_IsCandidate.j1] at H
              by_cases c34 : x54_5 = true
              · subst c34
                have H1 : (some false) = some r := by rw [if_pos rfl] at H; exact H
                clear H
                have H := H1
                clear H1
                obtain rfl := Option.some.inj H
                go_wp2
                go_ret
                exact ⟨by first | rfl | (simp [errW_none, errW_some] <;> rfl) | (simp [*, errW_none, errW_some] <;> rfl), by repeat (first | (with_reducible first | exact HB.out | apply below_alloc | apply pw_below_drewN | apply below_drew1 | refine below_set ?_ GE129.out | refine below_set ?_ GE131.out) | exact HB.out)⟩
              · replace c34 := Bool.eq_false_iff.mpr c34
                subst c34
                have H1 : (if ((rd_T83 l0_0 x3_1).f0) = 0 then (spec_IsCandidate.l0 kj5 (wrap64 (x3_1 + 1)) l0_0) else (if ((rd_T83 l0_0 x3_1).f1) = 0 then (spec_IsCandidate.l0 kj5 (wrap64 (x3_1 + 1)) l0_0) else (if ((rd_T83 l0_0 x3_1).f0) = ((rd_T83 l0_0 x3_1).f1) then (spec_IsCandidate.l0 kj5 (wrap64 (x3_1 + 1)) l0_0) else (if t133 = true then (if t132 = ((rd_T83 l0_0 x3_1).f1) then (spec_IsCandidate.l0 kj5 (wrap64 (x3_1 + 1)) l0_0) else (some false)) else (some false))))) = some r := by rw [if_neg (show ¬ (false = true) by decide)] at H; exact H
                clear H
                have H := H1
                clear H1
                by_cases c35 : ((rd_T83 l0_0 x3_1).f0) = 0
                · rw [if_pos c35] at H
                  have c35b0 : (((rd_T83 l0_0 x3_1).f0) == 0) = true := beq_iff_eq.mpr c35
                  have c35b1 : (((rd_T83 l0_0 x3_1).f0) != 0) = false := bne_eq_false_iff_eq.mpr c35
                  clear c35
                  have H' := Aside0.mk H
                  clear H
                  have hnb36 := NB131_129.out
                  have hnc36 := NB129_131.out
                  have hcz37_0 : wc.cell? ⟨gb131, 0, none⟩ = some (.int .u8 ((rd_T83 l0_0 x3_1).f0)) := (blk_cell BK131.out 0).trans rfl
                  have hcz37_1 : wc.cell? ⟨gb131, 1, none⟩ = some (.int .u8 ((rd_T83 l0_0 x3_1).f1)) := (blk_cell BK131.out 1).trans rfl
                  have hfz37_0 := blk_frozen BK131.out 0
                  have hfz37_1 := blk_frozen BK131.out 1
                  go_wp2
                  go_roundg kj5
                  case measure => have := HK1.out; have := HJ5.out; omega
                  case rel => exact ⟨(wrap64 (x3_1 + 1)), (by first | rfl | (simp; done) | (simp [*]; done)), H', ⟨by have := HK1.out; have := HJ5.out; omega⟩, ⟨by (with_reducible repeat (first | refine blk_drewN ?_ _ | refine blk_drew ?_ | refine blk_alloc ?_ _)); exact BK129.out⟩, ⟨by repeat (first | (with_reducible first | exact HB.out | apply below_alloc | apply pw_below_drewN | apply below_drew1 | refine below_set ?_ GE129.out | refine below_set ?_ GE131.out) | exact HB.out)⟩⟩
                · rw [if_neg c35] at H
                  have c35b0 : (((rd_T83 l0_0 x3_1).f0) == 0) = false := beq_eq_false_iff_ne.mpr c35
                  have c35b1 : (((rd_T83 l0_0 x3_1).f0) != 0) = true := bne_iff_ne.mpr c35
                  by_cases c38 : ((rd_T83 l0_0 x3_1).f1) = 0
                  · rw [if_pos c38] at H
                    have c38b0 : (((rd_T83 l0_0 x3_1).f1) == 0) = true := beq_iff_eq.mpr c38
                    have c38b1 : (((rd_T83 l0_0 x3_1).f1) != 0) = false := bne_eq_false_iff_eq.mpr c38
                    clear c38
                    have H' := Aside0.mk H
                    clear H
                    have hnb39 := NB131_129.out
                    have hnc39 := NB129_131.out
                    have hcz40_0 : wc.cell? ⟨gb131, 0, none⟩ = some (.int .u8 ((rd_T83 l0_0 x3_1).f0)) := (blk_cell BK131.out 0).trans rfl
                    have hcz40_1 : wc.cell? ⟨gb131, 1, none⟩ = some (.int .u8 ((rd_T83 l0_0 x3_1).f1)) := (blk_cell BK131.out 1).trans rfl
                    have hfz40_0 := blk_frozen BK131.out 0
                    have hfz40_1 := blk_frozen BK131.out 1
                    go_wp2
                    go_roundg kj5
                    case measure => have := HK1.out; have := HJ5.out; omega
                    case rel => exact ⟨(wrap64 (x3_1 + 1)), (by first | rfl | (simp; done) | (simp [*]; done)), H', ⟨by have := HK1.out; have := HJ5.out; omega⟩, ⟨by (with_reducible repeat (first | refine blk_drewN ?_ _ | refine blk_drew ?_ | refine blk_alloc ?_ _)); exact BK129.out⟩, ⟨by repeat (first | (with_reducible first | exact HB.out | apply below_alloc | apply pw_below_drewN | apply below_drew1 | refine below_set ?_ GE129.out | refine below_set ?_ GE131.out) | exact HB.out)⟩⟩
                  · rw [if_neg c38] at H
                    have c38b0 : (((rd_T83 l0_0 x3_1).f1) == 0) = false := beq_eq_false_iff_ne.mpr c38
                    have c38b1 : (((rd_T83 l0_0 x3_1).f1) != 0) = true := bne_iff_ne.mpr c38
                    by_cases c41 : ((rd_T83 l0_0 x3_1).f0) = ((rd_T83 l0_0 x3_1).f1)
                    · rw [if_pos c41] at H
                      have c41b0 : (((rd_T83 l0_0 x3_1).f0) == ((rd_T83 l0_0 x3_1).f1)) = true := beq_iff_eq.mpr c41
                      have c41b1 : (((rd_T83 l0_0 x3_1).f0) != ((rd_T83 l0_0 x3_1).f1)) = false := bne_eq_false_iff_eq.mpr c41
                      clear c41
                      have H' := Aside0.mk H
                      clear H
                      have hnb42 := NB131_129.out
                      have hnc42 := NB129_131.out
                      have hcz43_0 : wc.cell? ⟨gb131, 0, none⟩ = some (.int .u8 ((rd_T83 l0_0 x3_1).f0)) := (blk_cell BK131.out 0).trans rfl
                      have hcz43_1 : wc.cell? ⟨gb131, 1, none⟩ = some (.int .u8 ((rd_T83 l0_0 x3_1).f1)) := (blk_cell BK131.out 1).trans rfl
                      have hfz43_0 := blk_frozen BK131.out 0
                      have hfz43_1 := blk_frozen BK131.out 1
                      go_wp2
                      go_roundg kj5
                      case measure => have := HK1.out; have := HJ5.out; omega
                      case rel => exact ⟨(wrap64 (x3_1 + 1)), (by first | rfl | (simp; done) | (simp [*]; done)), H', ⟨by have := HK1.out; have := HJ5.out; omega⟩, ⟨by (with_reducible repeat (first | refine blk_drewN ?_ _ | refine blk_drew ?_ | refine blk_alloc ?_ _)); exact BK129.out⟩, ⟨by repeat (first | (with_reducible first | exact HB.out | apply below_alloc | apply pw_below_drewN | apply below_drew1 | refine below_set ?_ GE129.out | refine below_set ?_ GE131.out) | exact HB.out)⟩⟩
                    · rw [if_neg c41] at H
                      have c41b0 : (((rd_T83 l0_0 x3_1).f0) == ((rd_T83 l0_0 x3_1).f1)) = false := beq_eq_false_iff_ne.mpr c41
                      have c41b1 : (((rd_T83 l0_0 x3_1).f0) != ((rd_T83 l0_0 x3_1).f1)) = true := bne_iff_ne.mpr c41
                      by_cases c44 : t133 = true
                      · subst c44
                        have H1 : (if t132 = ((rd_T83 l0_0 x3_1).f1) then (spec_IsCandidate.l0 kj5 (wrap64 (x3_1 + 1)) l0_0) else (some false)) = some r := by rw [if_pos rfl] at H; exact H
                        clear H
                        have H := H1
                        clear H1
                        by_cases c45 : t132 = ((rd_T83 l0_0 x3_1).f1)
                        · rw [if_pos c45] at H
                          have c45b0 : (t132 == ((rd_T83 l0_0 x3_1).f1)) = true := beq_iff_eq.mpr c45
                          have c45b1 : (t132 != ((rd_T83 l0_0 x3_1).f1)) = false := bne_eq_false_iff_eq.mpr c45
                          clear c45
                          have H' := Aside0.mk H
                          clear H
                          have hnb46 := NB131_129.out
                          have hnc46 := NB129_131.out
                          have hcz47_0 : wc.cell? ⟨gb131, 0, none⟩ = some (.int .u8 ((rd_T83 l0_0 x3_1).f0)) := (blk_cell BK131.out 0).trans rfl
                          have hcz47_1 : wc.cell? ⟨gb131, 1, none⟩ = some (.int .u8 ((rd_T83 l0_0 x3_1).f1)) := (blk_cell BK131.out 1).trans rfl
                          have hfz47_0 := blk_frozen BK131.out 0
                          have hfz47_1 := blk_frozen BK131.out 1
                          go_wp2
                          go_roundg kj5
                          case measure => have := HK1.out; have := HJ5.out; omega
                          case rel => exact ⟨(wrap64 (x3_1 + 1)), (by first | rfl | (simp; done) | (simp [*]; done)), H', ⟨by have := HK1.out; have := HJ5.out; omega⟩, ⟨by (with_reducible repeat (first | refine blk_drewN ?_ _ | refine blk_drew ?_ | refine blk_alloc ?_ _)); exact BK129.out⟩, ⟨by repeat (first | (with_reducible first | exact HB.out | apply below_alloc | apply pw_below_drewN | apply below_drew1 | refine below_set ?_ GE129.out | refine below_set ?_ GE131.out) | exact HB.out)⟩⟩
                        · rw [if_neg c45] at H
                          have c45b0 : (t132 == ((rd_T83 l0_0 x3_1).f1)) = false := beq_eq_false_iff_ne.mpr c45
                          have c45b1 : (t132 != ((rd_T83 l0_0 x3_1).f1)) = true := bne_iff_ne.mpr c45
                          obtain rfl := Option.some.inj H
                          have hnb48 := NB131_129.out
                          have hnc48 := NB129_131.out
                          have hcz49_0 : wc.cell? ⟨gb131, 0, none⟩ = some (.int .u8 ((rd_T83 l0_0 x3_1).f0)) := (blk_cell BK131.out 0).trans rfl
                          have hcz49_1 : wc.cell? ⟨gb131, 1, none⟩ = some (.int .u8 ((rd_T83 l0_0 x3_1).f1)) := (blk_cell BK131.out 1).trans rfl
                          have hfz49_0 := blk_frozen BK131.out 0
                          have hfz49_1 := blk_frozen BK131.out 1
                          go_wp2
                          go_ret
                          exact ⟨by first | rfl | (simp [errW_none, errW_some] <;> rfl) | (simp [*, errW_none, errW_some] <;> rfl), by repeat (first | (with_reducible first | exact HB.out | apply below_alloc | apply pw_below_drewN | apply below_drew1 | refine below_set ?_ GE129.out | refine below_set ?_ GE131.out) | exact HB.out)⟩
                      · replace c44 := Bool.eq_false_iff.mpr c44
                        subst c44
                        have H1 : (some false) = some r := by rw [if_neg (show ¬ (false = true) by decide)] at H; exact H
                        clear H
                        have H := H1
                        clear H1
                        obtain rfl := Option.some.inj H
                        have hnb50 := NB131_129.out
                        have hnc50 := NB129_131.out
                        have hcz51_0 : wc.cell? ⟨gb131, 0, none⟩ = some (.int .u8 ((rd_T83 l0_0 x3_1).f0)) := (blk_cell BK131.out 0).trans rfl
                        have hcz51_1 : wc.cell? ⟨gb131, 1, none⟩ = some (.int .u8 ((rd_T83 l0_0 x3_1).f1)) := (blk_cell BK131.out 1).trans rfl
                        have hfz51_0 := blk_frozen BK131.out 0
                        have hfz51_1 := blk_frozen BK131.out 1
                        go_wp2
                        go_ret
                        exact ⟨by first | rfl | (simp [errW_none, errW_some] <;> rfl) | (simp [*, errW_none, errW_some] <;> rfl), by repeat (first | (with_reducible first | exact HB.out | apply below_alloc | apply pw_below_drewN | apply below_drew1 | refine below_set ?_ GE129.out | refine below_set ?_ GE131.out) | exact HB.out)⟩
        · rw [if_neg c4] at H
          exact absurd H (by simp)
      · rw [if_neg c3] at H
        have c3b0 : decide (x3_1 < (l0_0.length : Int)) = false := decide_eq_false c3
        clear c3
        by_cases c52 : (l0_0.length : Int) ≤ 16
        · rw [if_pos c52] at H
          have c52b0 : decide ((l0_0.length : Int) ≤ 16) = true := decide_eq_true c52
          have c52b1 : decide (l0_0.length ≤ 16) = true := decide_eq_true (by omega)
          clear c52
          replace H := Option.bind_eq_some_iff.mp H
          obtain ⟨t137, A530, H⟩ := H
          replace H : ((spec_IsForm.f k1 t137).bind fun t138 => (if t138 = true then ((spec_l6Out.f k1 l0_0).bind fun t139 => ((spec_IsForm.f k1 t139).bind fun t140 => (some t140))) else (some false))) = some r := H
          have A53 := Aside0.mk A530
          clear A530
          replace H := Option.bind_eq_some_iff.mp H
          obtain ⟨t138, A540, H⟩ := H
          replace H : (if t138 = true then ((spec_l6Out.f k1 l0_0).bind fun t139 => ((spec_IsForm.f k1 t139).bind fun t140 => (some t140))) else (some false)) = some r := H
          have A54 := Aside0.mk A540
          clear A540
          by_cases c55 : t138 = true
          · subst c55
            have H1 : ((spec_l6Out.f k1 l0_0).bind fun t139 => ((spec_IsForm.f k1 t139).bind fun t140 => (some t140))) = some r := by rw [if_pos rfl] at H; exact H
            clear H
            have H := H1
            clear H1
            replace H := Option.bind_eq_some_iff.mp H
            obtain ⟨t139, A560, H⟩ := H
            replace H : ((spec_IsForm.f k1 t139).bind fun t140 => (some t140)) = some r := H
            have A56 := Aside0.mk A560
            clear A560
            replace H := Option.bind_eq_some_iff.mp H
            obtain ⟨t140, A570, H⟩ := H
            replace H : (some t140) = some r := H
            have A57 := Aside0.mk A570
            clear A570
            obtain rfl := Option.some.inj H
            have hcz58_0 : wr.cell? ⟨gb129, 0, none⟩ = some (.slice A0_0 l0_0.length c0_0) := (blk_cell BK129.out 0).trans rfl
            have hfz58_0 := blk_frozen BK129.out 0
            go_wp2_with (first | (go_at_call 71; (with_reducible refine (spec_l6In.calls k1 _ _ l0_0 t137 _ ?side1 ?side2 A53.out).mono ?_); (case side1 => repeat (first | exact (Kd.C_below HR0_0.out HB.out) | (with_reducible refine Kd.C_alloc ?_ _) | (with_reducible refine Kd.C_drewN ?_ _) | (with_reducible refine Kd.C_drew ?_))); (case side2 => exact HC0_0.out); rintro e w59 ⟨rfl, hb⟩; have n0_ := Aside0.mk (blk_below (g := gb129) (o := .cells #[.slice A0_0 l0_0.length c0_0] 49 (0, 0)) (by (with_reducible repeat (first | refine blk_drewN ?_ _ | refine blk_drew ?_ | refine blk_alloc ?_ _)); exact BK129.out) hb); have n1_ := Aside0.mk (below_step (by repeat (first | (with_reducible first | exact HB.out | apply below_alloc | apply pw_below_drewN | apply below_drew1 | refine below_set ?_ GE129.out) | exact HB.out)) hb); clear BK129; clear HB; have BK129 := n0_; have HB := n1_; clear n0_ n1_; (try clear hb); (try clear hb2); (try clear hk); (try clear hi)) | (go_at_call 70; (with_reducible refine (spec_IsForm.calls k1 t137 true _ A54.out).mono ?_); rintro e w' ⟨rfl, ⟨nd, rfl⟩⟩; have hcz60_0 : w59.cell? ⟨gb129, 0, none⟩ = some (.slice A0_0 l0_0.length c0_0) := (blk_cell BK129.out 0).trans rfl; have hfz60_0 := blk_frozen BK129.out 0) | (go_at_call 72; (with_reducible refine (spec_l6Out.calls k1 _ _ l0_0 t139 _ ?side1 ?side2 A56.out).mono ?_); (case side1 => repeat (first | exact (Kd.C_below HR0_0.out (by repeat (first | (with_reducible first | exact HB.out | apply below_alloc | apply pw_below_drewN | apply below_drew1 | refine below_set ?_ GE129.out) | exact HB.out))) | (with_reducible refine Kd.C_alloc ?_ _) | (with_reducible refine Kd.C_drewN ?_ _) | (with_reducible refine Kd.C_drew ?_))); (case side2 => exact HC0_0.out); rintro e w61 ⟨rfl, hb⟩; have n0_ := Aside0.mk (blk_below (g := gb129) (o := .cells #[.slice A0_0 l0_0.length c0_0] 49 (0, 0)) (by (with_reducible repeat (first | refine blk_drewN ?_ _ | refine blk_drew ?_ | refine blk_alloc ?_ _)); exact BK129.out) hb); have n1_ := Aside0.mk (below_step (by repeat (first | (with_reducible first | exact HB.out | apply below_alloc | apply pw_below_drewN | apply below_drew1 | refine below_set ?_ GE129.out) | exact HB.out)) hb); clear BK129; clear HB; have BK129 := n0_; have HB := n1_; clear n0_ n1_; (try clear hb); (try clear hb2); (try clear hk); (try clear hi)) | (go_at_call 70; (with_reducible refine (spec_IsForm.calls k1 t139 t140 _ A57.out).mono ?_); rintro e w' ⟨rfl, ⟨nd, rfl⟩⟩))
            go_ret
            exact ⟨by first | rfl | (simp [errW_none, errW_some] <;> rfl) | (simp [*, errW_none, errW_some] <;> rfl), by repeat (first | (with_reducible first | exact HB.out | apply below_alloc | apply pw_below_drewN | apply below_drew1 | refine below_set ?_ GE129.out) | exact HB.out)⟩
          · replace c55 := Bool.eq_false_iff.mpr c55
            subst c55
            have H1 : (some false) = some r := by rw [if_neg (show ¬ (false = true) by decide)] at H; exact H
            clear H
            have H := H1
            clear H1
            obtain rfl := Option.some.inj H
            have hcz62_0 : wr.cell? ⟨gb129, 0, none⟩ = some (.slice A0_0 l0_0.length c0_0) := (blk_cell BK129.out 0).trans rfl
            have hfz62_0 := blk_frozen BK129.out 0
            go_wp2_with (first | (go_at_call 71; (with_reducible refine (spec_l6In.calls k1 _ _ l0_0 t137 _ ?side1 ?side2 A53.out).mono ?_); (case side1 => repeat (first | exact (Kd.C_below HR0_0.out HB.out) | (with_reducible refine Kd.C_alloc ?_ _) | (with_reducible refine Kd.C_drewN ?_ _) | (with_reducible refine Kd.C_drew ?_))); (case side2 => exact HC0_0.out); rintro e w63 ⟨rfl, hb⟩; have n0_ := Aside0.mk (blk_below (g := gb129) (o := .cells #[.slice A0_0 l0_0.length c0_0] 49 (0, 0)) (by (with_reducible repeat (first | refine blk_drewN ?_ _ | refine blk_drew ?_ | refine blk_alloc ?_ _)); exact BK129.out) hb); have n1_ := Aside0.mk (below_step (by repeat (first | (with_reducible first | exact HB.out | apply below_alloc | apply pw_below_drewN | apply below_drew1 | refine below_set ?_ GE129.out) | exact HB.out)) hb); clear BK129; clear HB; have BK129 := n0_; have HB := n1_; clear n0_ n1_; (try clear hb); (try clear hb2); (try clear hk); (try clear hi)) | (go_at_call 70; (with_reducible refine (spec_IsForm.calls k1 t137 false _ A54.out).mono ?_); rintro e w' ⟨rfl, ⟨nd, rfl⟩⟩))
            go_ret
            exact ⟨by first | rfl | (simp [errW_none, errW_some] <;> rfl) | (simp [*, errW_none, errW_some] <;> rfl), by repeat (first | (with_reducible first | exact HB.out | apply below_alloc | apply pw_below_drewN | apply below_drew1 | refine below_set ?_ GE129.out) | exact HB.out)⟩
        · rw [if_neg c52] at H
          have c52b0 : decide ((l0_0.length : Int) ≤ 16) = false := decide_eq_false c52
          have c52b1 : decide (l0_0.length ≤ 16) = false := decide_eq_false (by omega)
          clear c52
          obtain rfl := Option.some.inj H
          have hcz64_0 : wr.cell? ⟨gb129, 0, none⟩ = some (.slice A0_0 l0_0.length c0_0) := (blk_cell BK129.out 0).trans rfl
          have hfz64_0 := blk_frozen BK129.out 0
          go_wp2
          go_ret
          exact ⟨by first | rfl | (simp [errW_none, errW_some] <;> rfl) | (simp [*, errW_none, errW_some] <;> rfl), by repeat (first | (with_reducible first | exact HB.out | apply below_alloc | apply pw_below_drewN | apply below_drew1 | refine below_set ?_ GE129.out) | exact HB.out)⟩

end Go.Proofs.Ytomkfofflpdknaa.PFnExactParseCandidate
