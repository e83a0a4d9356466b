import Derived.Test.YtkjpbhncgjhfeaaDoorPFnFeetx0
namespace Go.Proofs.YtkjpbhncgjhfeaaDoor.PFnFeet
open Go.RowKit Go.Proofs.YtkjpbhncgjhfeaaDoorW.PrintWords Go.Proofs.YtkjpbhncgjhfeaaDoorW.PrintLast Go.Proofs.YtkjpbhncgjhfeaaDoorW.PrintMore
attribute [local go_sem] max2_int min2_int max_two min_two max_three min_three max_four min_four
set_option linter.unusedVariables false
set_option linter.unusedSimpArgs false
set_option maxHeartbeats 8000000
set_option maxRecDepth 100000
def IsS75 (w0 W : World) (g : Nat) (f0 : List Int) (f1 : Int) (f2 : Int) : Prop := ∃ A0 c0, W.heap[g]? = some (.cells #[.slice A0 f0.length c0, .int .i64 f1, .int .i64 f2] 75 (0, 0)) ∧ w0.heap.size ≤ g ∧ Kd.C (Kd.int .u8) w0 A0 f0.length f0
theorem IsS75.grown {w0 W : World} {g : Nat} {f0 : List Int} {f1 : Int} {f2 : Int} {W1 : World} {row : Option Nat} (h : IsS75 w0 W g f0 f1 f2) (hw : W.grownBy W1 row) (hne : some g ≠ row) : IsS75 w0 W1 g f0 f1 f2 := by
 obtain ⟨A0, c0, hb, hg, hr0⟩ := h; exact ⟨A0, c0, blk_grown hb hw hne, hg, hr0⟩
theorem IsS75.fresh {w0 W : World} {g : Nat} {f0 : List Int} {f1 : Int} {f2 : Int} (h : IsS75 w0 W g f0 f1 f2) : ∀ k, W.heap.size ≤ k → k ≠ g := by
 obtain ⟨A0, c0, hb, hg, hr0⟩ := h; exact Kd.freshB hb
theorem IsS75.kept {w0 W : World} {g : Nat} {f0 : List Int} {f1 : Int} {f2 : Int} {W1 : World} {S : Nat → Prop} (h : IsS75 w0 W g f0 f1 f2) (hk : Kept W W1 S) (hne : ¬ S g) : IsS75 w0 W1 g f0 f1 f2 := by
 obtain ⟨A0, c0, hb, hg, hr0⟩ := h; exact ⟨A0, c0, blk_kept hb hk hne, hg, hr0⟩
theorem IsS75.below {w0 W : World} {g : Nat} {f0 : List Int} {f1 : Int} {f2 : Int} {W1 : World} (h : IsS75 w0 W g f0 f1 f2) (hw : Below W.heap.size W W1) : IsS75 w0 W1 g f0 f1 f2 := h.grown (grown_of_below hw none) (by simp)
theorem IsS75.alloc {w0 W : World} {g : Nat} {f0 : List Int} {f1 : Int} {f2 : Int} (h : IsS75 w0 W g f0 f1 f2) (o : Obj) : IsS75 w0 (W.alloc o) g f0 f1 f2 := h.below (qh (qsb _ _) o)
theorem IsS75.drewN {w0 W : World} {g : Nat} {f0 : List Int} {f1 : Int} {f2 : Int} (h : IsS75 w0 W g f0 f1 f2) (m : Nat) : IsS75 w0 (W.drewN m) g f0 f1 f2 := h
theorem IsS75.drew {w0 W : World} {g : Nat} {f0 : List Int} {f1 : Int} {f2 : Int} (h : IsS75 w0 W g f0 f1 f2) : IsS75 w0 W.drew g f0 f1 f2 := h
theorem IsS75.at_ {w0 W : World} {g : Nat} {f0 : List Int} {f1 : Int} {f2 : Int} {w' : World} {m : Nat} (hq : W.drewN m = w') (h : IsS75 w0 W g f0 f1 f2) : IsS75 w0 w' g f0 f1 f2 := by subst hq; exact IsS75.drewN h m
theorem IsS75.apart {w0 W : World} {g : Nat} {f0 : List Int} {f1 : Int} {f2 : Int} {α : Type} {d : Kd α} {e : Nat} {base : Nat} {ok : Nat → Prop} {v : Value} {xs : List α} (h : IsS75 w0 W g f0 f1 f2) (ho : d.R e W base ok v xs) (ht : ∀ q, q ∈ e :: d.E → q ≠ 75) : d.R e W base (fun k => ok k ∧ k ≠ g) v xs := by
 obtain ⟨A0, c0, hb, hg, hr0⟩ := h; exact Kd.R_types ho hb ht
theorem IsS75.own_ne {w0 W : World} {g : Nat} {f0 : List Int} {f1 : Int} {f2 : Int} {α : Type} {d : Kd α} {e : Nat} {base : Nat} {ok : Nat → Prop} {v : Value} {xs : List α} (h : IsS75 w0 W g f0 f1 f2) (ho : d.R e W base ok v xs) (ht : e ≠ 75) : some g ≠ v.ownBlock := by
 obtain ⟨A0, c0, hb, hg, hr0⟩ := h; exact Kd.R_ne ho hb ht
theorem IsS75.lt {w0 W : World} {g : Nat} {f0 : List Int} {f1 : Int} {f2 : Int} (h : IsS75 w0 W g f0 f1 f2) : g < W.heap.size := by
 obtain ⟨A0, c0, hb, hg, hr0⟩ := h; exact blk_lt hb
theorem IsS75.ge {w0 W : World} {g : Nat} {f0 : List Int} {f1 : Int} {f2 : Int} (h : IsS75 w0 W g f0 f1 f2) : w0.heap.size ≤ g := by
 obtain ⟨A0, c0, hb, hg, hr0⟩ := h; exact hg
theorem IsS75.ne_blk {w0 W : World} {g : Nat} {f0 : List Int} {f1 : Int} {f2 : Int} {a : Nat} {cs : Array Value} {t : TypeId} {fr : Nat × Nat} (h : IsS75 w0 W g f0 f1 f2) (hb2 : W.heap[a]? = some (.cells cs t fr)) (ht : t ≠ 75) : g ≠ a := by
 obtain ⟨A0, c0, hb, hg, hr0⟩ := h; rintro rfl; rw [hb] at hb2
 injection hb2 with hb2
 injection hb2 with _ ht2
 exact ht ht2.symm
theorem IsS75.far {w0 W : World} {g : Nat} {f0 : List Int} {f1 : Int} {f2 : Int} {p : Addr} (h : IsS75 w0 W g f0 f1 f2) (hne : g ≠ p.block) (u : Value) : IsS75 w0 (W.setCell p u) g f0 f1 f2 := by
 obtain ⟨A0, c0, hb, hg, hr0⟩ := h; exact ⟨A0, c0, qlb hb hne u, hg, hr0⟩
theorem cellS75_0 {W : World} {g : Nat} {A0 : Option Addr} {c0 : Nat} {f0 : List Int} {f1 : Int} {f2 : Int} (h : W.heap[g]? = some (.cells #[.slice A0 f0.length c0, .int .i64 f1, .int .i64 f2] 75 (0, 0))) : W.cell? ⟨g, 0, none⟩ = some (.slice A0 f0.length c0) := (qi h 0).trans rfl
theorem cellS75_1 {W : World} {g : Nat} {A0 : Option Addr} {c0 : Nat} {f0 : List Int} {f1 : Int} {f2 : Int} (h : W.heap[g]? = some (.cells #[.slice A0 f0.length c0, .int .i64 f1, .int .i64 f2] 75 (0, 0))) : W.cell? ⟨g, 1, none⟩ = some (.int .i64 f1) := (qi h 1).trans rfl
theorem IsS75.set_1 {w0 W : World} {g : Nat} {f0 : List Int} {f1 : Int} {f2 : Int} (h : IsS75 w0 W g f0 f1 f2) (x : Int) : IsS75 w0 (W.setCell ⟨g, 1, none⟩ (.int .i64 x)) g f0 x f2 := by
 obtain ⟨A0, c0, hb, hg, hr0⟩ := h; exact ⟨A0, c0, by simpa using blk_set hb 1 (.int .i64 x), hg, hr0⟩
theorem cellS75_2 {W : World} {g : Nat} {A0 : Option Addr} {c0 : Nat} {f0 : List Int} {f1 : Int} {f2 : Int} (h : W.heap[g]? = some (.cells #[.slice A0 f0.length c0, .int .i64 f1, .int .i64 f2] 75 (0, 0))) : W.cell? ⟨g, 2, none⟩ = some (.int .i64 f2) := (qi h 2).trans rfl
theorem IsS75.set_2 {w0 W : World} {g : Nat} {f0 : List Int} {f1 : Int} {f2 : Int} (h : IsS75 w0 W g f0 f1 f2) (x : Int) : IsS75 w0 (W.setCell ⟨g, 2, none⟩ (.int .i64 x)) g f0 f1 x := by
 obtain ⟨A0, c0, hb, hg, hr0⟩ := h; exact ⟨A0, c0, by simpa using blk_set hb 2 (.int .i64 x), hg, hr0⟩
def spec_l1New.l0 : Nat → List Int → Int → Int → Option (List Int × Int × Int)
 | 0, _, _, _ => none
 | k + 1, x0, x3, x4 => if x4 < (x0.length : Int) then (if x4 < 4000 then (if 0 ≤ x4 then (spec_l1New.l0 k x0 (Go.bits .and .i64 (wrap64 ((wrap64 ((wrap64 (x3 * 131)) + (wrap64 (rd x0 x4)))) + 7)) 1073741823) (wrap64 (x4 + 1))) else (none)) else (some (x0, 0, x3))) else (some (x0, 0, x3))
def spec_l1New.f (k : Nat) (l0 : List Int) : Option (List Int × Int × Int) := spec_l1New.l0 k l0 (wrap64 (10101 + (l0.length : Int))) 0
theorem spec_l1New.calls (k : Nat) (A0 : Option Addr) (c0 : Nat) (l0 : List Int) (r1 : List Int) (r2 : Int) (r3 : Int) (w0 w : World) (hB : Below w0.heap.size w0 w) (hr0 : Kd.C (Kd.int .u8) w0 A0 l0.length l0) (hc0 : l0.length ≤ c0) (h : spec_l1New.f k l0 = some (r1, r2, r3)) :
  Calls Tryd.prog 38 #[.slice A0 l0.length c0] w fun e w' => ∃ g_ : Nat, e = .returned (.pointer (some ⟨g_, 0, none⟩)) ∧ IsS75 w0 w' g_ r1 r2 r3 ∧ Below w0.heap.size w0 w' ∧ Below w.heap.size w w' := by
 have hu75 := Tryd.underlying75; have HR0 := qa hr0; have HC0 := qa hc0; clear hr0 hc0; have HBW := qa (qsb w.heap.size w); have HW0 := qa hB.size; have HB := qa hB; clear hB; have H := h; unfold spec_l1New.f at H; clear h; have H' := qa H; clear H; go_enter Tryd.func38, Tryd.ntmps38; go_wp2
 go_loopg [3, 4] k (fun kq v3 v4 w' => ∃ (x3_1 : Int) (x4_1 : Int), v3 = .int .i64 x3_1 ∧ v4 = .int .i64 x4_1 ∧ Aside0 (spec_l1New.l0 kq l0 x3_1 x4_1 = some (r1, r2, r3)) ∧ Aside0 (kq ≤ k) ∧ Aside0 (Below w0.heap.size w0 w') ∧ Aside0 (Below w.heap.size w w'))
 case atStart => exact ⟨(wrap64 (10101 + (l0.length : Int))), (0), (by first | rfl | (simp; done) | (simp [*]; done)), (by first | rfl | (simp; done) | (simp [*]; done)), H', ⟨qqb _⟩, ⟨by repeat (first | (with_reducible first | exact HB.out | apply qh | apply qe | apply qg) | exact HB.out)⟩, ⟨by repeat (first | (with_reducible first | exact HBW.out | apply qh | apply qe | apply qg) | exact HBW.out)⟩⟩
 case round =>
  clear H'; obtain ⟨x3_1, x4_1, rfl, rfl, HA, HK1, HB, HBW⟩ := hrel
  cases gk with
  | zero => exact absurd HA.out (by simp [spec_l1New.l0])
  | succ k1 =>
   have H := HA.out; clear HA; simp only [spec_l1New.l0] at H
   by_cases c2 : x4_1 < (l0.length : Int)
   ·rw [if_pos c2] at H
    have c2b0 : decide (x4_1 < (l0.length : Int)) = true := qq c2; clear c2
    by_cases c3 : x4_1 < 4000
    ·rw [if_pos c3] at H
     have c3b0 : decide (x4_1 < 4000) = true := qq c3; clear c3
     by_cases c4 : 0 ≤ x4_1
     ·rw [if_pos c4] at H
      have c4b0 : decide (0 ≤ x4_1) = true := qq c4; clear c4; have H' := qa H; clear H; have p122 : 0 ≤ (x4_1 : Int) := qm (by assumption); have q122 : x4_1 < (l0.length : Int) := qm (by assumption); obtain ⟨ad122, e122, hx122_0⟩ := Kd.at_int HR0.out x4_1 p122 q122; cases e122; replace hx122_0 := pw_cell_below HB.out hx122_0; replace p122 := qga p122; replace q122 := qga q122; go_wp2
      go_roundg k1
      case measure => have := HK1.out; omega
      case rel => exact ⟨(Go.bits .and .i64 (wrap64 ((wrap64 ((wrap64 (x3_1 * 131)) + (wrap64 (rd l0 x4_1)))) + 7)) 1073741823), (wrap64 (x4_1 + 1)), (by first | rfl | (simp; done) | (simp [*]; done)), (by first | rfl | (simp; done) | (simp [*]; done)), H', ⟨by have := HK1.out; omega⟩, ⟨by repeat (first | (with_reducible first | exact HB.out | apply qh | apply qe | apply qg) | exact HB.out)⟩, ⟨by repeat (first | (with_reducible first | exact HBW.out | apply qh | apply qe | apply qg) | exact HBW.out)⟩⟩
     ·rw [if_neg c4] at H
      exact absurd H (by simp)
    ·rw [if_neg c3] at H
     have c3b0 : decide (x4_1 < 4000) = false := qr c3; clear c3; simp only [Option.some.injEq, Prod.mk.injEq] at H; obtain ⟨rfl, rfl, rfl⟩ := H
     go_wp2_with (first | ((with_reducible refine gate_dst (N := 31) rfl ?_); refine box_event ?hg (N := 31) ?hd (cs := #[.slice A0 l0.length c0, .int .i64 0, .int .i64 x3_1]) (t := 75) ?hr ?_; (case hd => rfl); (case hg => rfl); (case hr => first | (go_simp; done) | (go_simp; rfl)); intro gb123 hg w5 hbox hb; have n0_ := qa (qha HBW.out hb); have n1_ := qa (qha (by repeat (first | (with_reducible first | exact HB.out | apply qh | apply qe | apply qg) | exact HB.out)) hb); have n2_ := qa (hbox); have n3_ := qa ((by rw [hg]; exact (qp (by repeat (first | (with_reducible first | exact HBW.out | apply qh | apply qe | apply qg) | exact HBW.out))) : w.heap.size ≤ gb123)); have n4_ := qa ((qrb HW0.out (by rw [hg]; exact (qp (by repeat (first | (with_reducible first | exact HBW.out | apply qh | apply qe | apply qg) | exact HBW.out))) : w.heap.size ≤ gb123) : w0.heap.size ≤ gb123)); clear HBW; clear HB; have HBW := n0_; have HB := n1_; have BK123 := n2_; have GW123 := n3_; have GE123 := n4_; clear n0_ n1_ n2_ n3_ n4_; clear hb hbox hg))
     go_ret; exact ⟨_, rfl, (show IsS75 w0 _ gb123 l0 0 x3_1 from ⟨_, _, by (with_reducible repeat first | apply ql | apply qn | apply qk); exact BK123.out, GE123.out, HR0.out⟩), by repeat (first | (with_reducible first | exact HB.out | apply qh | apply qe | apply qg | refine qj ?_ GE123.out) | exact HB.out), by repeat (first | (with_reducible first | exact HBW.out | apply qh | apply qe | apply qg | refine qj ?_ GW123.out) | exact HBW.out)⟩
   ·rw [if_neg c2] at H
    have c2b0 : decide (x4_1 < (l0.length : Int)) = false := qr c2; clear c2; simp only [Option.some.injEq, Prod.mk.injEq] at H; obtain ⟨rfl, rfl, rfl⟩ := H
    go_wp2_with (first | ((with_reducible refine gate_dst (N := 31) rfl ?_); refine box_event ?hg (N := 31) ?hd (cs := #[.slice A0 l0.length c0, .int .i64 0, .int .i64 x3_1]) (t := 75) ?hr ?_; (case hd => rfl); (case hg => rfl); (case hr => first | (go_simp; done) | (go_simp; rfl)); intro gb124 hg w6 hbox hb; have n0_ := qa (qha HBW.out hb); have n1_ := qa (qha (by repeat (first | (with_reducible first | exact HB.out | apply qh | apply qe | apply qg) | exact HB.out)) hb); have n2_ := qa (hbox); have n3_ := qa ((by rw [hg]; exact (qp (by repeat (first | (with_reducible first | exact HBW.out | apply qh | apply qe | apply qg) | exact HBW.out))) : w.heap.size ≤ gb124)); have n4_ := qa ((qrb HW0.out (by rw [hg]; exact (qp (by repeat (first | (with_reducible first | exact HBW.out | apply qh | apply qe | apply qg) | exact HBW.out))) : w.heap.size ≤ gb124) : w0.heap.size ≤ gb124)); clear HBW; clear HB; have HBW := n0_; have HB := n1_; have BK124 := n2_; have GW124 := n3_; have GE124 := n4_; clear n0_ n1_ n2_ n3_ n4_; clear hb hbox hg))
    go_ret; exact ⟨_, rfl, (show IsS75 w0 _ gb124 l0 0 x3_1 from ⟨_, _, by (with_reducible repeat first | apply ql | apply qn | apply qk); exact BK124.out, GE124.out, HR0.out⟩), by repeat (first | (with_reducible first | exact HB.out | apply qh | apply qe | apply qg | refine qj ?_ GE124.out) | exact HB.out), by repeat (first | (with_reducible first | exact HBW.out | apply qh | apply qe | apply qg | refine qj ?_ GW124.out) | exact HBW.out)⟩
mutual
def spec_l5Feet.l0 : Nat → Int → Int → List (List (S59)) → List (List (S59)) → Int → Option ((List (List (S59))))
 | 0, _, _, _, _, _ => none
 | k + 1, x0, x1, x5, x6, x7 => if x7 < (x6.length : Int) then (if 0 ≤ x7 then (if x5.length < 5864062014805 then (spec_l5Feet.l0 k x0 x1 (x5 ++ [rd_L3 x6 x7]) x6 (wrap64 (x7 + 1))) else (none)) else (none)) else (spec_l5Feet.l1 k x0 x1 x5 1)
def spec_l5Feet.l1 : Nat → Int → Int → List (List (S59)) → Int → Option ((List (List (S59))))
 | 0, _, _, _, _ => none
 | k + 1, x0, x1, x5, x8 => if x8 ≤ 2 then (spec_l5Feet.j2 k x0 x1 x5 x8 (decide ((wrap64 (x1 + x8)) ≤ x0))) else (spec_l5Feet.j2 k x0 x1 x5 x8 false)
def spec_l5Feet.j2 : Nat → Int → Int → List (List (S59)) → Int → Bool → Option ((List (List (S59))))
 | 0, _, _, _, _, _ => none
 | k + 1, x0, x1, x5, x8, x42 => if x42 = true then ((spec_l5Feet.f k x0 (wrap64 (x1 + x8))).bind fun t141 => (spec_l5Feet.l2 k x0 x1 x5 t141 x8 0)) else (some x5)
def spec_l5Feet.l2 : Nat → Int → Int → List (List (S59)) → List (List (S59)) → Int → Int → Option ((List (List (S59))))
 | 0, _, _, _, _, _, _ => none
 | k + 1, x0, x1, x5, x6, x8, x9 => if x9 < x8 then (spec_l5Feet.l3 k x0 x1 x5 x6 x8 x9 0) else (spec_l5Feet.l1 k x0 x1 x5 (wrap64 (x8 + 1)))
def spec_l5Feet.l3 : Nat → Int → Int → List (List (S59)) → List (List (S59)) → Int → Int → Int → Option ((List (List (S59))))
 | 0, _, _, _, _, _, _, _ => none
 | k + 1, x0, x1, x5, x6, x8, x9, x10 => if x10 < (x6.length : Int) then ((some (([(⟨x1, x8, x9⟩ : S59)] : List (S59)) : List (S59))).bind fun y144 => (if 0 ≤ x10 then (if y144.length + (rd_L3 x6 x10).length < 5864062014805 then (if x5.length < 5864062014805 then (spec_l5Feet.l3 k x0 x1 (x5 ++ [(y144 ++ (rd_L3 x6 x10))]) x6 x8 x9 (wrap64 (x10 + 1))) else (none)) else (none)) else (none))) else (spec_l5Feet.l2 k x0 x1 x5 x6 x8 (wrap64 (x9 + 1)))
def spec_l5Feet.f : Nat → Int → Int → Option ((List (List (S59))))
 | 0, _, _ => none
 | k + 1, a0, a1 => if a1 ≥ a0 then (some (([(([] : List (S59)))] : List (List (S59))))) else ((spec_l5Feet.f k a0 (wrap64 (a1 + 1))).bind fun t134 => (spec_l5Feet.l0 k a0 a1 (([] : List (List (S59)))) t134 0))
end
theorem spec_l5Feet.mono_l : ∀ k, (∀ y0 y1, LeO (spec_l5Feet.f k y0 y1) (spec_l5Feet.f (k + 1) y0 y1)) ∧ (∀ y0 y1 y2 y3 y4, LeO (spec_l5Feet.l0 k y0 y1 y2 y3 y4) (spec_l5Feet.l0 (k + 1) y0 y1 y2 y3 y4)) ∧ (∀ y0 y1 y2 y3, LeO (spec_l5Feet.l1 k y0 y1 y2 y3) (spec_l5Feet.l1 (k + 1) y0 y1 y2 y3)) ∧ (∀ y0 y1 y2 y3 y4, LeO (spec_l5Feet.j2 k y0 y1 y2 y3 y4) (spec_l5Feet.j2 (k + 1) y0 y1 y2 y3 y4)) ∧ (∀ y0 y1 y2 y3 y4 y5, LeO (spec_l5Feet.l2 k y0 y1 y2 y3 y4 y5) (spec_l5Feet.l2 (k + 1) y0 y1 y2 y3 y4 y5)) ∧ (∀ y0 y1 y2 y3 y4 y5 y6, LeO (spec_l5Feet.l3 k y0 y1 y2 y3 y4 y5 y6) (spec_l5Feet.l3 (k + 1) y0 y1 y2 y3 y4 y5 y6))
 | 0 => ⟨fun _ _ r h => by simp [spec_l5Feet.f] at h, fun _ _ _ _ _ r h => by simp [spec_l5Feet.l0] at h, fun _ _ _ _ r h => by simp [spec_l5Feet.l1] at h, fun _ _ _ _ _ r h => by simp [spec_l5Feet.j2] at h, fun _ _ _ _ _ _ r h => by simp [spec_l5Feet.l2] at h, fun _ _ _ _ _ _ _ r h => by simp [spec_l5Feet.l3] at h⟩
 | k + 1 => by
  obtain ⟨ih0, ih1, ih2, ih3, ih4, ih5⟩ := spec_l5Feet.mono_l k; refine ⟨?_, ?_, ?_, ?_, ?_, ?_⟩
  ·intro y0 y1
   unfold spec_l5Feet.f
   repeat' first
   | (with_reducible exact ih0 _ _)
   | (with_reducible exact ih1 _ _ _ _ _)
   | (with_reducible exact ih2 _ _ _ _)
   | (with_reducible exact ih3 _ _ _ _ _)
   | (with_reducible exact ih4 _ _ _ _ _ _)
   | (with_reducible exact ih5 _ _ _ _ _ _ _)
   | (with_reducible exact LeO.refl _)
   | (with_reducible exact LeO.none _)
   | (with_reducible refine LeO.ite ?_ ?_)
   | (with_reducible refine LeO.bind ?_ (fun _ => ?_))
   | exact ih0 _ _
   | exact ih1 _ _ _ _ _
   | exact ih2 _ _ _ _
   | exact ih3 _ _ _ _ _
   | exact ih4 _ _ _ _ _ _
   | exact ih5 _ _ _ _ _ _ _
   | exact LeO.none _
   | refine LeO.ite ?_ ?_
   | refine LeO.bind ?_ (fun _ => ?_)
  ·intro y0 y1 y2 y3 y4
   unfold spec_l5Feet.l0
   repeat' first
   | (with_reducible exact ih0 _ _)
   | (with_reducible exact ih1 _ _ _ _ _)
   | (with_reducible exact ih2 _ _ _ _)
   | (with_reducible exact ih3 _ _ _ _ _)
   | (with_reducible exact ih4 _ _ _ _ _ _)
   | (with_reducible exact ih5 _ _ _ _ _ _ _)
   | (with_reducible exact LeO.refl _)
   | (with_reducible exact LeO.none _)
   | (with_reducible refine LeO.ite ?_ ?_)
   | (with_reducible refine LeO.bind ?_ (fun _ => ?_))
   | exact ih0 _ _
   | exact ih1 _ _ _ _ _
   | exact ih2 _ _ _ _
   | exact ih3 _ _ _ _ _
   | exact ih4 _ _ _ _ _ _
   | exact ih5 _ _ _ _ _ _ _
   | exact LeO.none _
   | refine LeO.ite ?_ ?_
   | refine LeO.bind ?_ (fun _ => ?_)
  ·intro y0 y1 y2 y3
   unfold spec_l5Feet.l1
   repeat' first
   | (with_reducible exact ih0 _ _)
   | (with_reducible exact ih1 _ _ _ _ _)
   | (with_reducible exact ih2 _ _ _ _)
   | (with_reducible exact ih3 _ _ _ _ _)
   | (with_reducible exact ih4 _ _ _ _ _ _)
   | (with_reducible exact ih5 _ _ _ _ _ _ _)
   | (with_reducible exact LeO.refl _)
   | (with_reducible exact LeO.none _)
   | (with_reducible refine LeO.ite ?_ ?_)
   | (with_reducible refine LeO.bind ?_ (fun _ => ?_))
   | exact ih0 _ _
   | exact ih1 _ _ _ _ _
   | exact ih2 _ _ _ _
   | exact ih3 _ _ _ _ _
   | exact ih4 _ _ _ _ _ _
   | exact ih5 _ _ _ _ _ _ _
   | exact LeO.none _
   | refine LeO.ite ?_ ?_
   | refine LeO.bind ?_ (fun _ => ?_)
  ·intro y0 y1 y2 y3 y4
   unfold spec_l5Feet.j2
   repeat' first
   | (with_reducible exact ih0 _ _)
   | (with_reducible exact ih1 _ _ _ _ _)
   | (with_reducible exact ih2 _ _ _ _)
   | (with_reducible exact ih3 _ _ _ _ _)
   | (with_reducible exact ih4 _ _ _ _ _ _)
   | (with_reducible exact ih5 _ _ _ _ _ _ _)
   | (with_reducible exact LeO.refl _)
   | (with_reducible exact LeO.none _)
   | (with_reducible refine LeO.ite ?_ ?_)
   | (with_reducible refine LeO.bind ?_ (fun _ => ?_))
   | exact ih0 _ _
   | exact ih1 _ _ _ _ _
   | exact ih2 _ _ _ _
   | exact ih3 _ _ _ _ _
   | exact ih4 _ _ _ _ _ _
   | exact ih5 _ _ _ _ _ _ _
   | exact LeO.none _
   | refine LeO.ite ?_ ?_
   | refine LeO.bind ?_ (fun _ => ?_)
  ·intro y0 y1 y2 y3 y4 y5
   unfold spec_l5Feet.l2
   repeat' first
   | (with_reducible exact ih0 _ _)
   | (with_reducible exact ih1 _ _ _ _ _)
   | (with_reducible exact ih2 _ _ _ _)
   | (with_reducible exact ih3 _ _ _ _ _)
   | (with_reducible exact ih4 _ _ _ _ _ _)
   | (with_reducible exact ih5 _ _ _ _ _ _ _)
   | (with_reducible exact LeO.refl _)
   | (with_reducible exact LeO.none _)
   | (with_reducible refine LeO.ite ?_ ?_)
   | (with_reducible refine LeO.bind ?_ (fun _ => ?_))
   | exact ih0 _ _
   | exact ih1 _ _ _ _ _
   | exact ih2 _ _ _ _
   | exact ih3 _ _ _ _ _
   | exact ih4 _ _ _ _ _ _
   | exact ih5 _ _ _ _ _ _ _
   | exact LeO.none _
   | refine LeO.ite ?_ ?_
   | refine LeO.bind ?_ (fun _ => ?_)
  ·intro y0 y1 y2 y3 y4 y5 y6
   unfold spec_l5Feet.l3
   repeat' first
   | (with_reducible exact ih0 _ _)
   | (with_reducible exact ih1 _ _ _ _ _)
   | (with_reducible exact ih2 _ _ _ _)
   | (with_reducible exact ih3 _ _ _ _ _)
   | (with_reducible exact ih4 _ _ _ _ _ _)
   | (with_reducible exact ih5 _ _ _ _ _ _ _)
   | (with_reducible exact LeO.refl _)
   | (with_reducible exact LeO.none _)
   | (with_reducible refine LeO.ite ?_ ?_)
   | (with_reducible refine LeO.bind ?_ (fun _ => ?_))
   | exact ih0 _ _
   | exact ih1 _ _ _ _ _
   | exact ih2 _ _ _ _
   | exact ih3 _ _ _ _ _
   | exact ih4 _ _ _ _ _ _
   | exact ih5 _ _ _ _ _ _ _
   | exact LeO.none _
   | refine LeO.ite ?_ ?_
   | refine LeO.bind ?_ (fun _ => ?_)
theorem spec_l5Feet.mono : ∀ a0 a1 k, LeO (spec_l5Feet.f k a0 a1) (spec_l5Feet.f (k + 1) a0 a1) := by
 intro a0 a1 k; obtain ⟨ih0, ih1, ih2, ih3, ih4, ih5⟩ := spec_l5Feet.mono_l k; exact ih0 a0 a1
theorem spec_l5Feet.calls (k : Nat) : ∀ (a0 : Int) (a1 : Int) (r : List (List (S59))) (w : World) (h : spec_l5Feet.f k a0 a1 = some r),
  Calls Tryd.prog 48 #[.int .i64 a0, .int .i64 a1] w fun e w' => ∃ v0_ : Value, e = .returned (v0_) ∧ Kd.N (Kd.slice 59 k59) 29 w' w.heap.size (fun k_ => (w.heap.size ≤ k_)) v0_ r ∧ Below w.heap.size w w' := by
 induction k using Nat.strongRecOn with
 | _ k ih =>
 intro a0 a1 r w h
 cases k with
 | zero => exact absurd h (by simp [spec_l5Feet.f])
 | succ k =>
 simp only [spec_l5Feet.f] at h; have hu59 := Tryd.underlying59; have HB := qa (qsb w.heap.size w); have H : (if a1 ≥ a0 then (some (([(([] : List (S59)))] : List (List (S59))))) else ((spec_l5Feet.f k a0 (wrap64 (a1 + 1))).bind fun t134 => (spec_l5Feet.l0 k a0 a1 (([] : List (List (S59)))) t134 0))) = some r := h; clear h
 by_cases c3 : a1 ≥ a0
 ·rw [if_pos c3] at H
  have c3b0 : decide (a0 ≤ a1) = true := qq c3; clear c3
  obtain ⟨y125, hy125⟩ : ∃ y_ : List (S59), y_ = (([] : List (S59))) := ⟨_, rfl⟩
  replace H : (some (([y125] : List (List (S59))))) = some r := by first | (rw [hy125]; with_reducible exact H) | (have H2_ := (Option.bind_some _ _).symm.trans H; rw [hy125]; with_reducible exact H2_) | (have H2_ := (Option.bind_some _ _).symm.trans H; with_reducible exact H2_) | with_reducible exact H | (rw [hy125]; exact H) | exact H
  have Ny125 := qa hy125; clear hy125
  obtain ⟨y128, hy128⟩ : ∃ y_ : List (List (S59)), y_ = (([y125] : List (List (S59)))) := ⟨_, rfl⟩
  replace H : (some y128) = some r := by first | (rw [hy128]; with_reducible exact H) | (have H2_ := (Option.bind_some _ _).symm.trans H; rw [hy128]; with_reducible exact H2_) | (have H2_ := (Option.bind_some _ _).symm.trans H; with_reducible exact H2_) | with_reducible exact H | (rw [hy128]; exact H) | exact H
  have Ny128 := qa hy128; clear hy128; obtain rfl := qia H; go_enter Tryd.func48, Tryd.ntmps48
  go_wp2_with (first | ((with_reducible refine gate_dst (N := 14) rfl ?_); refine qcc k59 _ 59 ?hg (N := 14) ?hd (xs := ([] : List (S59))) (inner := []) (ok := fun _ => True) (okp := fun _ => True) ?hr ?hp (fun _ hk => hk) trivial (qsb _ _) (qqb _) (by simp) ?_; (case hd => rfl); (case hg => rfl); (case hr => first | (go_simp; done) | (go_simp; rfl)); (case hp => exact (Reps.none _ _)); intro v126 w4 ho5 hb hg_ hnew_; clear hg_ hnew_; (first | rw [← Ny125.out] at ho5 | (simp only [Int.reduceToNat] at ho5; rw [← Ny125.out] at ho5)); have n0_ := qa (qvb (qwb (M := fun k_ => (w.heap.size ≤ k_)) ho5 (qp (by repeat (first | (with_reducible first | exact HB.out | apply qh | apply qe | apply qg) | exact HB.out))) (fun k_ h_ => h_)) (qp (by repeat (first | (with_reducible first | exact HB.out | apply qh | apply qe | apply qg) | exact HB.out)))); have n1_ := qa (qha (by repeat (first | (with_reducible first | exact HB.out | apply qh | apply qe | apply qg) | exact HB.out)) hb); clear HB; have HO127 := n0_; have HB := n1_; clear n0_ n1_; clear hb ho5; obtain ⟨Ao6, co6, eo6⟩ := Kd.R_slice HO127.out; subst eo6) | ((with_reducible refine gate_dst (N := 15) rfl ?_); refine Kd.N_lit (Kd.slice 59 k59) _ 29 ?hg (N' := 15) ?hd (xs := ([y125] : List (List (S59)))) (inner := [.slice Ao6 y125.length co6]) (ok := (fun k_ => (w.heap.size ≤ k_))) (okp := (fun k_ => (w.heap.size ≤ k_))) ?hr ?hp (fun _ hk => hk) ((show ∀ k_, w4.heap.size ≤ k_ → (fun k_ => (w.heap.size ≤ k_)) k_ from fun k_ hk => (qrb (qp (by repeat (first | (with_reducible first | exact HB.out | apply qh | apply qe | apply qg) | exact HB.out))) hk)) _ (qqb _)) (qsb _ _) (qqb _) (by simp) ?_; (case hd => rfl); (case hg => rfl); (case hr => first | (go_simp; done) | (go_simp; rfl)); (case hp => exact (Reps.one (show Kd.FK (Kd.slice 59 k59) _ _ y125 [.slice Ao6 y125.length co6] from (Kd.FK_slice_mk (qgb (qoa (ok' := (fun k_ => (w.heap.size ≤ k_))) (HO127.out) (fun k_ hk => hk.1))).2.1 (Kd.R_F (qoa (ok' := (fun k_ => (w.heap.size ≤ k_))) (HO127.out) (fun k_ hk => hk.1))))) (Reps.none _ _))); intro v129 w7 ho8 hb hg_ hnew_; clear hg_ hnew_; (first | rw [← Ny128.out] at ho8 | (simp only [Int.reduceToNat] at ho8; rw [← Ny128.out] at ho8)); have n0_ := qa (qxb ho8 (qp (by repeat (first | (with_reducible first | exact HB.out | apply qh | apply qe | apply qg) | exact HB.out)))); have n1_ := qa (qha (by repeat (first | (with_reducible first | exact HB.out | apply qh | apply qe | apply qg) | exact HB.out)) hb); clear HB; clear HO127; have HO130 := n0_; have HB := n1_; clear n0_ n1_; clear hb ho8))
  go_ret; exact ⟨_, by first | rfl | (simp [*] <;> rfl), by (with_reducible repeat first | apply qaa | apply qba | apply qca); exact HO130.out, by repeat (first | (with_reducible first | exact HB.out | apply qh | apply qe | apply qg) | exact HB.out)⟩
 ·rw [if_neg c3] at H
  have c3b0 : decide (a0 ≤ a1) = false := qr c3; clear c3
  obtain ⟨y131, hy131⟩ : ∃ y_ : List (List (S59)), y_ = (([] : List (List (S59)))) := ⟨_, rfl⟩
  replace H : ((spec_l5Feet.f k a0 (wrap64 (a1 + 1))).bind fun t134 => (spec_l5Feet.l0 k a0 a1 y131 t134 0)) = some r := by first | (rw [hy131]; with_reducible exact H) | (have H2_ := (Option.bind_some _ _).symm.trans H; rw [hy131]; with_reducible exact H2_) | (have H2_ := (Option.bind_some _ _).symm.trans H; with_reducible exact H2_) | with_reducible exact H | (rw [hy131]; exact H) | exact H
  have Ny131 := qa hy131; clear hy131; obtain ⟨t134, A90, H⟩ := zb H; (try dsimp only at H); have A9 := qa A90; clear A90; have H' := qa H; clear H; go_enter Tryd.func48, Tryd.ntmps48
  go_wp2_with (first | ((with_reducible refine gate_dst (N := 16) rfl ?_); refine Kd.N_lit (Kd.slice 59 k59) _ 29 ?hg (N' := 16) ?hd (xs := ([] : List (List (S59)))) (inner := []) (ok := (fun k_ => (w.heap.size ≤ k_))) (okp := (fun k_ => (w.heap.size ≤ k_))) ?hr ?hp (fun _ hk => hk) ((show ∀ k_, w.heap.size ≤ k_ → (fun k_ => (w.heap.size ≤ k_)) k_ from fun k_ hk => (qrb (qp (by repeat (first | (with_reducible first | exact HB.out | apply qh | apply qe | apply qg) | exact HB.out))) hk)) _ (qqb _)) (qsb _ _) (qqb _) (by simp) ?_; (case hd => rfl); (case hg => rfl); (case hr => first | (go_simp; done) | (go_simp; rfl)); (case hp => exact (Reps.none _ _)); intro v132 w10 ho11 hb hg_ hnew_; clear hg_ hnew_; (first | rw [← Ny131.out] at ho11 | (simp only [Int.reduceToNat] at ho11; rw [← Ny131.out] at ho11)); have n0_ := qa (qxb ho11 (qp (by repeat (first | (with_reducible first | exact HB.out | apply qh | apply qe | apply qg) | exact HB.out)))); have n1_ := qa (qha (by repeat (first | (with_reducible first | exact HB.out | apply qh | apply qe | apply qg) | exact HB.out)) hb); clear HB; have HO133 := n0_; have HB := n1_; clear n0_ n1_; clear hb ho11) | ((with_reducible refine qeb (f := 48) rfl ?_); refine goesL_ (some 20) rfl rfl Tryd.func48 (by kernel_rfl) rfl #[.int .i64 a0, .int .i64 (wrap64 (a1 + 1))] rfl (by (try simp only [qs, qv, qw]); first | done | rfl | (simp only [qu, qt]; rfl)) ?_; (with_reducible refine (ih k (by omega) a0 (wrap64 (a1 + 1)) t134 _ A9.out).mono ?_); rintro e w12 ⟨v135, rfl, ho0, hb⟩; refine ⟨_, rfl, ?_⟩; have n0_ := qa (qjb (by (with_reducible repeat first | apply qaa | apply qba | apply qca); exact HO133.out) (by first | exact Kd.N_base ho0 | exact Kd.N_base (Kd.S_N ho0)) hb); have n1_ := qa (qxb (qpa (ok' := fun k_ => (w.heap.size ≤ k_) ∧ some k_ ≠ (v132 : Value).ownBlock) ho0 (fun k_ hk_ => ⟨(qrb (qp (by repeat (first | (with_reducible first | exact HB.out | apply qh | apply qe | apply qg) | exact HB.out))) hk_), (Kd.fresh' (Kd.N_lt (by (with_reducible repeat first | apply qaa | apply qba | apply qca); exact HO133.out)) k_ hk_)⟩)) (qp (by repeat (first | (with_reducible first | exact HB.out | apply qh | apply qe | apply qg) | exact HB.out)))); have n2_ := qa (qha (by repeat (first | (with_reducible first | exact HB.out | apply qh | apply qe | apply qg) | exact HB.out)) hb); clear HO133; clear HB; have HO133 := n0_; have HO136 := n1_; have HB := n2_; clear n0_ n1_ n2_; (try clear hb); (try clear hb2); (try clear hk); (try clear hi); (try clear ho0)))
  go_loopg [5, 7] k (fun kq v5 v7 w' => ∃ (x5_1 : List (List (S59))) (x7_1 : Int), v7 = .int .i64 x7_1 ∧ Aside0 (spec_l5Feet.l0 kq a0 a1 x5_1 t134 x7_1 = some r) ∧ Aside0 (kq ≤ k) ∧ Aside0 (Kd.N (Kd.slice 59 k59) 29 w' w.heap.size (fun k_ => (w.heap.size ≤ k_) ∧ some k_ ≠ (v135 : Value).ownBlock) v5 x5_1) ∧ Aside0 (Kd.N (Kd.slice 59 k59) 29 w' w.heap.size (fun k_ => (w.heap.size ≤ k_) ∧ some k_ ≠ (v5 : Value).ownBlock) v135 t134) ∧ Aside0 (Below w.heap.size w w'))
  case atStart => exact ⟨(y131), (0), (by first | rfl | (simp; done) | (simp [*]; done)), H', ⟨qqb _⟩, ⟨by (with_reducible repeat first | apply qaa | apply qba | apply qca); exact HO133.out⟩, ⟨by (with_reducible repeat first | apply qaa | apply qba | apply qca); exact HO136.out⟩, ⟨by repeat (first | (with_reducible first | exact HB.out | apply qh | apply qe | apply qg) | exact HB.out)⟩⟩
  case round =>
   clear H'; (try clear p2); (try clear c3); (try clear c3b0); (try clear c4); (try clear p6); obtain ⟨x5_1, x7_1, rfl, HA, HK1, HO_5, HO_6, HB⟩ := hrel
   cases gk with
   | zero => exact absurd HA.out (by simp [spec_l5Feet.l0])
   | succ k1 =>
    have H := HA.out; clear HA; simp only [spec_l5Feet.l0] at H
    by_cases c13 : x7_1 < (t134.length : Int)
    ·rw [if_pos c13] at H
     have c13b0 : decide (x7_1 < (t134.length : Int)) = true := qq c13; clear c13
     by_cases c14 : 0 ≤ x7_1
     ·rw [if_pos c14] at H
      have c14b0 : decide (0 ≤ x7_1) = true := qq c14; clear c14
      by_cases c15 : x5_1.length < 5864062014805
      ·rw [if_pos c15] at H
       have LMc15 := qa c15; clear c15
       obtain ⟨y138, hy138⟩ : ∃ y_ : List (List (S59)), y_ = (x5_1 ++ [rd_L3 t134 x7_1]) := ⟨_, rfl⟩
       replace H : (spec_l5Feet.l0 k1 a0 a1 y138 t134 (wrap64 (x7_1 + 1))) = some r := by first | (rw [hy138]; with_reducible exact H) | (have H2_ := (Option.bind_some _ _).symm.trans H; rw [hy138]; with_reducible exact H2_) | (have H2_ := (Option.bind_some _ _).symm.trans H; with_reducible exact H2_) | with_reducible exact H | (rw [hy138]; exact H) | exact H
       have Ny138 := qa hy138; clear hy138; have H' := qa H; clear H; obtain ⟨Ao16, co16, eo16⟩ := Kd.N_slice HO_6.out; subst eo16; have p137 : 0 ≤ (x7_1 : Int) := qm (by assumption); have q137 : x7_1 < (t134.length : Int) := qm (by assumption); obtain ⟨ad137, A137_0, c137_0, e137, hx137_0, hl137_0, hi137_0⟩ := at_L3 (qhb HO_6.out).2.2 x7_1 p137 q137; cases e137; obtain ⟨ce137, hce137, hMe137, hcc137⟩ := qbc HO_6.out [] x7_1 p137 (by first | exact q137 | exact qm (by assumption) | (have e_ := (qhb HO_6.out).1; omega)); obtain ⟨ua137_0, uc137_0, rfl, ul137_0, ge137_0⟩ := Kd.FK_slice_open hMe137; have hv137_0 := hcc137 0 _ rfl; rw [Nat.add_zero, show ((Kd.slice 59 k59)).sz = 1 from rfl, Nat.mul_one] at hv137_0; replace hv137_0 := qia (hv137_0.symm.trans hx137_0)
       injection hv137_0 with hva_ hvn_ hvc_
       rw [hva_] at ge137_0; rw [hvc_] at ul137_0; have HL137_0 := qa (show Kd.V k59 59 _ w.heap.size _ _ (rd_L3 t134 x7_1) from Kd.V_mk ul137_0 ge137_0); clear hva_ hvn_ hvc_ ge137_0 ul137_0 hcc137 hce137; have HR137_0 := qa hi137_0; have HC137_0 := qa hl137_0; clear hi137_0 hl137_0; replace p137 := qga p137; replace q137 := qga q137
       go_wp2_with (first | ((with_reducible refine gate_builtin (b := .append) (xs := #[.tmp 27, .tmp 32]) rfl ?_); at_builtin; refine Kd.N_append (Kd.slice 59 k59) (w0 := w) w.heap.size rfl (.tmp 27) (.tmp 32) 63 29 (.slice none 0 0) 24 rfl Tryd.underlying63 info29 rfl (by decide) (by omega) u5 x5_1 (rd_L3 t134 x7_1) [.slice A137_0 (rd_L3 t134 x7_1).length c137_0] (fun k_ => (w.heap.size ≤ k_) ∧ some k_ ≠ (.slice (some ad137) t134.length co16 : Value).ownBlock) (fun k_ => ((fun k_ => (w.heap.size ≤ k_) ∧ some k_ ≠ (.slice (some ad137) t134.length co16 : Value).ownBlock)) k_ ∧ some k_ ≠ (u5 : Value).ownBlock) rfl rfl ?aP (fun _ hk => hk) ?aF ?aO ?aB ?aS ?aL ?_; (case aP => exact (Kd.FK_slice_mk (qfb (qna (ok' := (fun k_ => ((fun k_ => (w.heap.size ≤ k_) ∧ some k_ ≠ (.slice (some ad137) t134.length co16 : Value).ownBlock)) k_ ∧ some k_ ≠ (u5 : Value).ownBlock)) (HL137_0.out) (fun k_ hk => ⟨⟨hk.1.1, hk.2⟩, hk.1.2⟩))).2.1 (Kd.V_F (qna (ok' := (fun k_ => ((fun k_ => (w.heap.size ≤ k_) ∧ some k_ ≠ (.slice (some ad137) t134.length co16 : Value).ownBlock)) k_ ∧ some k_ ≠ (u5 : Value).ownBlock)) (HL137_0.out) (fun k_ hk => ⟨⟨hk.1.1, hk.2⟩, hk.1.2⟩))))); (case aB => exact (by repeat (first | (with_reducible first | exact HB.out | apply qh | apply qe | apply qg) | exact HB.out))); (case aF => exact (fun k_ hk => ⟨(qrb (qp (by repeat (first | (with_reducible first | exact HB.out | apply qh | apply qe | apply qg) | exact HB.out))) hk), Kd.fresh' (Kd.N_lt (by (with_reducible repeat first | apply qaa | apply qba | apply qca); exact HO_6.out)) k_ hk⟩)); (case aO => exact (by (with_reducible repeat first | apply qaa | apply qba | apply qca); exact HO_5.out)); (case aS => exact (qp (by repeat (first | (with_reducible first | exact HB.out | apply qh | apply qe | apply qg) | exact HB.out)))); (case aL => have := LMc15.out; omega); intro v139 w17 ho hb hg hat; rw [← Ny138.out] at ho; have n0_ := qa (Kd.N_afterv (ok := (fun k_ => (w.heap.size ≤ k_))) (by (with_reducible repeat first | apply qaa | apply qba | apply qca); exact HO_6.out) hg hat); have n1_ := qa (Kd.V_afterv (ok := (fun k_ => (w.heap.size ≤ k_) ∧ some k_ ≠ (.slice (some ad137) t134.length co16 : Value).ownBlock)) (by (with_reducible repeat first | apply qda | apply qea | apply qfa); exact qna HL137_0.out (fun _ hk => ⟨⟨hk.1.1, hk.2⟩, hk.1.2⟩)) hg hat); have n2_ := qa (hb); have n3_ := qa (ho); clear HO_6; clear HL137_0; clear HB; clear HO_5; have HO_6 := n0_; have HL137_0 := n1_; have HB := n2_; have HO140 := n3_; clear n0_ n1_ n2_ n3_; clear ho hb hg hat))
       go_roundg k1
       case measure => have := HK1.out; omega
       case rel => exact ⟨(y138), (wrap64 (x7_1 + 1)), (by first | rfl | (simp; done) | (simp [*]; done)), H', ⟨by have := HK1.out; omega⟩, ⟨by (with_reducible repeat first | apply qaa | apply qba | apply qca); exact HO140.out⟩, ⟨by (with_reducible repeat first | apply qaa | apply qba | apply qca); exact HO_6.out⟩, ⟨by repeat (first | (with_reducible first | exact HB.out | apply qh | apply qe | apply qg) | exact HB.out)⟩⟩
      ·rw [if_neg c15] at H
       exact absurd H (by simp)
     ·rw [if_neg c14] at H
      exact absurd H (by simp)
    ·rw [if_neg c13] at H
     have c13b0 : decide (x7_1 < (t134.length : Int)) = false := qr c13; clear c13; have H' := qa H; clear H; obtain ⟨Ao18, co18, eo18⟩ := Kd.N_slice HO_6.out; subst eo18; go_wp2
     go_loopg [5, 8] k1 (fun kq v5 v8 w' => ∃ (x5_2 : List (List (S59))) (x8_2 : Int), v8 = .int .i64 x8_2 ∧ Aside0 (spec_l5Feet.l1 kq a0 a1 x5_2 x8_2 = some r) ∧ Aside0 (kq ≤ k1) ∧ Aside0 (Kd.N (Kd.slice 59 k59) 29 w' w.heap.size (fun k_ => (w.heap.size ≤ k_)) v5 x5_2) ∧ Aside0 (Below w.heap.size w w'))
     case atStart => exact ⟨(x5_1), (1), (by first | rfl | (simp; done) | (simp [*]; done)), H', ⟨qqb _⟩, ⟨by (with_reducible repeat first | apply qaa | apply qba | apply qca); exact qpa HO_5.out (fun _ hk => hk.1)⟩, ⟨by repeat (first | (with_reducible first | exact HB.out | apply qh | apply qe | apply qg) | exact HB.out)⟩⟩
     case round =>
      clear H'; (try clear c1); (try clear p1); (try clear q1); (try clear hx1); (try clear p2); (try clear c3); (try clear c3b0); (try clear c4); (try clear p6); (try clear c13); (try clear c13b0); (try clear p13); (try clear q13); (try clear hx13); (try clear c14); (try clear c14b0); (try clear c15); (try clear hx137_0); (try clear p137); (try clear p2); (try clear p6); (try clear q137); obtain ⟨x5_2, x8_2, rfl, HA, HK2, HO_5, HB⟩ := hrel
      cases gk with
      | zero => exact absurd HA.out (by simp [spec_l5Feet.l1])
      | succ k2 =>
       have H := HA.out; clear HA; simp only [spec_l5Feet.l1] at H; have HC19 := qa H; clear H
       go_upto_region 10 with (fail)
       go_cut [42] (fun v42 wc => ∃ (kq : Nat) (x42_18 : Bool), v42 = .bool x42_18 ∧ Aside0 (spec_l5Feet.j2 kq a0 a1 x5_2 x8_2 x42_18 = some r) ∧ Aside0 (kq ≤ k2) ∧ Aside0 (Kd.N (Kd.slice 59 k59) 29 wc w.heap.size (fun k_ => (w.heap.size ≤ k_)) u5 x5_2) ∧ Aside0 (Below w.heap.size w wc))
       case first =>
        have H := HC19.out; clear HC19
        by_cases c20 : x8_2 ≤ 2
        ·rw [if_pos c20] at H
         have c20b0 : decide (x8_2 ≤ 2) = true := qq c20; clear c20
         (first | rw [c20b0] | (simp only [i64_w, i32_w]; rw [c20b0]) | skip)
         have H' := qa H; clear H; go_wp2; go_meet
         case rel => exact ⟨_, (decide ((wrap64 (a1 + x8_2)) ≤ a0)), (by first | rfl | (simp; done) | (simp [*]; done)), H', ⟨by have := HK1.out; have := HK2.out; first | omega | exact qqb _⟩, ⟨by (with_reducible repeat first | apply qaa | apply qba | apply qca); exact HO_5.out⟩, ⟨by repeat (first | (with_reducible first | exact HB.out | apply qh | apply qe | apply qg) | exact HB.out)⟩⟩
        ·rw [if_neg c20] at H
         have c20b0 : decide (x8_2 ≤ 2) = false := qr c20; clear c20
         (first | rw [c20b0] | (simp only [i64_w, i32_w]; rw [c20b0]) | skip)
         have H' := qa H; clear H; go_wp2; go_meet
         case rel => exact ⟨_, (false), (by first | rfl | (simp; done) | (simp [*]; done)), H', ⟨by have := HK1.out; have := HK2.out; first | omega | exact qqb _⟩, ⟨by (with_reducible repeat first | apply qaa | apply qba | apply qca); exact HO_5.out⟩, ⟨by repeat (first | (with_reducible first | exact HB.out | apply qh | apply qe | apply qg) | exact HB.out)⟩⟩
       case rest =>
        clear HC19; (try clear c1); (try clear p1); (try clear q1); (try clear hx1); (try clear c2); (try clear p2); (try clear c3); (try clear c3b0); (try clear c4); (try clear p6); (try clear c13); (try clear c13b0); (try clear p13); (try clear q13); (try clear hx13); (try clear c14); (try clear c14b0); (try clear c15); (try clear c20); (try clear c20b0); (try clear hx137_0); (try clear p1); (try clear p13); (try clear p137); (try clear p2); (try clear p6); (try clear q1); (try clear q13); (try clear q137); obtain ⟨kq, x42_18, rfl, HA, HJ18, HO_5, HB⟩ := hcut
        cases kq with
        | zero => exact absurd HA.out (by simp [spec_l5Feet.j2])
        | succ kj18 =>
         have H := HA.out; clear HA; simp only [spec_l5Feet.j2] at H
         by_cases c21 : x42_18 = true
         ·subst c21
          rw [if_pos rfl] at H; have H1 := H; clear H; have H := H1; clear H1; obtain ⟨t141, A220, H⟩ := zb H; (try dsimp only at H); have A22 := qa A220; clear A220; have H' := qa H; clear H
          go_wp2_with (first | ((with_reducible refine qeb (f := 48) rfl ?_); refine goesL_ (some 49) rfl rfl Tryd.func48 (by kernel_rfl) rfl #[.int .i64 a0, .int .i64 (wrap64 (a1 + x8_2))] rfl (by (try simp only [qs, qv, qw]); first | done | rfl | (simp only [qu, qt]; rfl)) ?_; (with_reducible refine (ih kj18 (by have := HK1.out; have := HK2.out; have := HJ18.out; omega) a0 (wrap64 (a1 + x8_2)) t141 _ A22.out).mono ?_); rintro e w23 ⟨v142, rfl, ho0, hb⟩; refine ⟨_, rfl, ?_⟩; have n0_ := qa (qjb (by (with_reducible repeat first | apply qaa | apply qba | apply qca); exact HO_5.out) (by first | exact Kd.N_base ho0 | exact Kd.N_base (Kd.S_N ho0)) hb); have n1_ := qa (qxb (qpa (ok' := fun k_ => (w.heap.size ≤ k_) ∧ some k_ ≠ (u5 : Value).ownBlock) ho0 (fun k_ hk_ => ⟨(qrb (qp (by repeat (first | (with_reducible first | exact HB.out | apply qh | apply qe | apply qg) | exact HB.out))) hk_), (Kd.fresh' (Kd.N_lt (by (with_reducible repeat first | apply qaa | apply qba | apply qca); exact HO_5.out)) k_ hk_)⟩)) (qp (by repeat (first | (with_reducible first | exact HB.out | apply qh | apply qe | apply qg) | exact HB.out)))); have n2_ := qa (qha (by repeat (first | (with_reducible first | exact HB.out | apply qh | apply qe | apply qg) | exact HB.out)) hb); clear HO_5; clear HB; have HO_5 := n0_; have HO143 := n1_; have HB := n2_; clear n0_ n1_ n2_; (try clear hb); (try clear hb2); (try clear hk); (try clear hi); (try clear ho0)))
          go_loopg [5, 9] kj18 (fun kq v5 v9 w' => ∃ (x5_4 : List (List (S59))) (x9_4 : Int), v9 = .int .i64 x9_4 ∧ Aside0 (spec_l5Feet.l2 kq a0 a1 x5_4 t141 x8_2 x9_4 = some r) ∧ Aside0 (kq ≤ kj18) ∧ Aside0 (Kd.N (Kd.slice 59 k59) 29 w' w.heap.size (fun k_ => (w.heap.size ≤ k_) ∧ some k_ ≠ (v142 : Value).ownBlock) v5 x5_4) ∧ Aside0 (Kd.N (Kd.slice 59 k59) 29 w' w.heap.size (fun k_ => (w.heap.size ≤ k_) ∧ some k_ ≠ (v5 : Value).ownBlock) v142 t141) ∧ Aside0 (Below w.heap.size w w'))
          case atStart => exact ⟨(x5_2), (0), (by first | rfl | (simp; done) | (simp [*]; done)), H', ⟨qqb _⟩, ⟨by (with_reducible repeat first | apply qaa | apply qba | apply qca); exact HO_5.out⟩, ⟨by (with_reducible repeat first | apply qaa | apply qba | apply qca); exact HO143.out⟩, ⟨by repeat (first | (with_reducible first | exact HB.out | apply qh | apply qe | apply qg) | exact HB.out)⟩⟩
          case round =>
           clear H'; (try clear c1); (try clear p1); (try clear q1); (try clear hx1); (try clear c2); (try clear p2); (try clear c3); (try clear c3b0); (try clear c4); (try clear p6); (try clear c13); (try clear c13b0); (try clear p13); (try clear q13); (try clear hx13); (try clear c14); (try clear c14b0); (try clear c15); (try clear c20); (try clear c20b0); (try clear c21); (try clear hx137_0); (try clear p1); (try clear p13); (try clear p137); (try clear p2); (try clear p6); (try clear q1); (try clear q13); (try clear q137); obtain ⟨x5_4, x9_4, rfl, HA, HK4, HO_5, HO_6, HB⟩ := hrel
           cases gk with
           | zero => exact absurd HA.out (by simp [spec_l5Feet.l2])
           | succ k4 =>
            have H := HA.out; clear HA; simp only [spec_l5Feet.l2] at H
            by_cases c24 : x9_4 < x8_2
            ·rw [if_pos c24] at H
             have c24b0 : decide (x9_4 < x8_2) = true := qq c24; clear c24; have H' := qa H; clear H; go_wp2
             go_loopg [5, 10] k4 (fun kq v5 v10 w' => ∃ (x5_5 : List (List (S59))) (x10_5 : Int), v10 = .int .i64 x10_5 ∧ Aside0 (spec_l5Feet.l3 kq a0 a1 x5_5 t141 x8_2 x9_4 x10_5 = some r) ∧ Aside0 (kq ≤ k4) ∧ Aside0 (Kd.N (Kd.slice 59 k59) 29 w' w.heap.size (fun k_ => (w.heap.size ≤ k_) ∧ some k_ ≠ (v142 : Value).ownBlock) v5 x5_5) ∧ Aside0 (Kd.N (Kd.slice 59 k59) 29 w' w.heap.size (fun k_ => (w.heap.size ≤ k_) ∧ some k_ ≠ (v5 : Value).ownBlock) v142 t141) ∧ Aside0 (Below w.heap.size w w'))
             case atStart => exact ⟨(x5_4), (0), (by first | rfl | (simp; done) | (simp [*]; done)), H', ⟨qqb _⟩, ⟨by (with_reducible repeat first | apply qaa | apply qba | apply qca); exact HO_5.out⟩, ⟨by (with_reducible repeat first | apply qaa | apply qba | apply qca); exact HO_6.out⟩, ⟨by repeat (first | (with_reducible first | exact HB.out | apply qh | apply qe | apply qg) | exact HB.out)⟩⟩
             case round =>
              clear H'; (try clear c1); (try clear p1); (try clear q1); (try clear hx1); (try clear c2); (try clear p2); (try clear c3); (try clear c3b0); (try clear c4); (try clear p6); (try clear c13); (try clear c13b0); (try clear p13); (try clear q13); (try clear hx13); (try clear c14); (try clear c14b0); (try clear c15); (try clear c20); (try clear c20b0); (try clear c21); (try clear c24); (try clear c24b0); (try clear hx137_0); (try clear p1); (try clear p13); (try clear p137); (try clear p2); (try clear p6); (try clear q1); (try clear q13); (try clear q137); obtain ⟨x5_5, x10_5, rfl, HA, HK5, HO_5, HO_6, HB⟩ := hrel
              cases gk with
              | zero => exact absurd HA.out (by simp [spec_l5Feet.l3])
              | succ k5 =>
               have H := HA.out; clear HA; simp only [spec_l5Feet.l3] at H
               by_cases c25 : x10_5 < (t141.length : Int)
               ·rw [if_pos c25] at H
                have c25b0 : decide (x10_5 < (t141.length : Int)) = true := qq c25; clear c25
                obtain ⟨y144, hy144⟩ : ∃ y_ : List (S59), y_ = (([(⟨a1, x8_2, x9_4⟩ : S59)] : List (S59))) := ⟨_, rfl⟩
                replace H : (if 0 ≤ x10_5 then (if y144.length + (rd_L3 t141 x10_5).length < 5864062014805 then (if x5_5.length < 5864062014805 then (spec_l5Feet.l3 k5 a0 a1 (x5_5 ++ [(y144 ++ (rd_L3 t141 x10_5))]) t141 x8_2 x9_4 (wrap64 (x10_5 + 1))) else (none)) else (none)) else (none)) = some r := by first | (rw [hy144]; with_reducible exact H) | (have H2_ := (Option.bind_some _ _).symm.trans H; rw [hy144]; with_reducible exact H2_) | (have H2_ := (Option.bind_some _ _).symm.trans H; with_reducible exact H2_) | with_reducible exact H | (rw [hy144]; exact H) | exact H
                have Ny144 := qa hy144; clear hy144
                by_cases c26 : 0 ≤ x10_5
                ·rw [if_pos c26] at H
                 have c26b0 : decide (0 ≤ x10_5) = true := qq c26; clear c26
                 by_cases c27 : y144.length + (rd_L3 t141 x10_5).length < 5864062014805
                 ·rw [if_pos c27] at H
                  have LMc27 := qa c27; clear c27
                  obtain ⟨y148, hy148⟩ : ∃ y_ : List (S59), y_ = (y144 ++ (rd_L3 t141 x10_5)) := ⟨_, rfl⟩
                  replace H : (if x5_5.length < 5864062014805 then (spec_l5Feet.l3 k5 a0 a1 (x5_5 ++ [y148]) t141 x8_2 x9_4 (wrap64 (x10_5 + 1))) else (none)) = some r := by first | (rw [hy148]; with_reducible exact H) | (have H2_ := (Option.bind_some _ _).symm.trans H; rw [hy148]; with_reducible exact H2_) | (have H2_ := (Option.bind_some _ _).symm.trans H; with_reducible exact H2_) | with_reducible exact H | (rw [hy148]; exact H) | exact H
                  have Ny148 := qa hy148; clear hy148
                  by_cases c28 : x5_5.length < 5864062014805
                  ·rw [if_pos c28] at H
                   have LMc28 := qa c28; clear c28
                   obtain ⟨y151, hy151⟩ : ∃ y_ : List (List (S59)), y_ = (x5_5 ++ [y148]) := ⟨_, rfl⟩
                   replace H : (spec_l5Feet.l3 k5 a0 a1 y151 t141 x8_2 x9_4 (wrap64 (x10_5 + 1))) = some r := by first | (rw [hy151]; with_reducible exact H) | (have H2_ := (Option.bind_some _ _).symm.trans H; rw [hy151]; with_reducible exact H2_) | (have H2_ := (Option.bind_some _ _).symm.trans H; with_reducible exact H2_) | with_reducible exact H | (rw [hy151]; exact H) | exact H
                   have Ny151 := qa hy151; clear hy151; have H' := qa H; clear H; obtain ⟨Ao29, co29, eo29⟩ := Kd.N_slice HO_6.out; subst eo29
                   go_wp2_with (first | ((with_reducible refine gate_dst (N := 66) rfl ?_); refine qcc k59 _ 59 ?hg (N := 66) ?hd (xs := ([(⟨a1, x8_2, x9_4⟩ : S59)] : List (S59))) (inner := [.int .i64 a1, .int .i64 x8_2, .int .i64 x9_4]) (ok := fun _ => True) (okp := fun _ => True) ?hr ?hp (fun _ hk => hk) trivial (qsb _ _) (qqb _) (by simp) ?_; (case hd => rfl); (case hg => rfl); (case hr => first | (go_simp; done) | (go_simp; rfl)); (case hp => exact (Reps.c3 (show Kd.M k59 _ _ _ (⟨a1, x8_2, x9_4⟩ : S59) [.int .i64 a1, .int .i64 x8_2, .int .i64 x9_4] from (k59_mkM _ _ _ (⟨a1, x8_2, x9_4⟩ : S59) )) (Reps.none _ _))); intro v145 w30 ho31 hb hg_ hnew_; clear hg_ hnew_; (first | rw [← Ny144.out] at ho31 | (simp only [Int.reduceToNat] at ho31; rw [← Ny144.out] at ho31)); have n0_ := qa (qjb (by (with_reducible repeat first | apply qaa | apply qba | apply qca); exact HO_5.out) (qyb ho31) hb); have n1_ := qa (qjb (by (with_reducible repeat first | apply qaa | apply qba | apply qca); exact HO_6.out) (qyb ho31) hb); have n2_ := qa (qvb (qwb (M := fun k_ => (w.heap.size ≤ k_)) ho31 (qp (by repeat (first | (with_reducible first | exact HB.out | apply qh | apply qe | apply qg) | exact HB.out))) (fun k_ h_ => h_)) (qp (by repeat (first | (with_reducible first | exact HB.out | apply qh | apply qe | apply qg) | exact HB.out)))); have n3_ := qa (qha (by repeat (first | (with_reducible first | exact HB.out | apply qh | apply qe | apply qg) | exact HB.out)) hb); clear HO_5; clear HO_6; clear HB; have HO_5 := n0_; have HO_6 := n1_; have HO146 := n2_; have HB := n3_; clear n0_ n1_ n2_ n3_; clear hb ho31; have p147 : 0 ≤ (x10_5 : Int) := qm (by assumption); have q147 : x10_5 < (t141.length : Int) := qm (by assumption); obtain ⟨ad147, A147_0, c147_0, e147, hx147_0, hl147_0, hi147_0⟩ := at_L3 (qhb HO_6.out).2.2 x10_5 p147 q147; cases e147; obtain ⟨ce147, hce147, hMe147, hcc147⟩ := qbc HO_6.out [] x10_5 p147 (by first | exact q147 | exact qm (by assumption) | (have e_ := (qhb HO_6.out).1; omega)); obtain ⟨ua147_0, uc147_0, rfl, ul147_0, ge147_0⟩ := Kd.FK_slice_open hMe147; have hv147_0 := hcc147 0 _ rfl; rw [Nat.add_zero, show ((Kd.slice 59 k59)).sz = 1 from rfl, Nat.mul_one] at hv147_0; replace hv147_0 := qia (hv147_0.symm.trans hx147_0); injection hv147_0 with hva_ hvn_ hvc_; rw [hva_] at ge147_0; rw [hvc_] at ul147_0; have HL147_0 := qa (show Kd.V k59 59 _ w.heap.size _ _ (rd_L3 t141 x10_5) from Kd.V_mk ul147_0 ge147_0); clear hva_ hvn_ hvc_ ge147_0 ul147_0; clear hcc147 hce147; have HR147_0 := qa hi147_0; have HC147_0 := qa hl147_0; clear hi147_0 hl147_0; replace p147 := qga p147; replace q147 := qga q147) | ((with_reducible refine gate_builtin (b := .append) (xs := #[.tmp 66, .tmp 70]) rfl ?_); at_builtin; refine Kd.R_append_rows k59 (w0 := w) w.heap.size rfl (.tmp 66) (.tmp 70) 29 59 (.agg #[(.int .i64 0), (.int .i64 0), (.int .i64 0)]) 24 rfl Tryd.underlying29 info59 rfl (by decide) (by omega) v145 y144 (rd_L3 t141 x10_5) _ _ _ (fun k_ => (w.heap.size ≤ k_)) (fun _ => False) rfl rfl ?aO ?aR (fun _ _ h => h) (fun _ h => h.elim) ?aF ?aB ?aS ?aL ?_; (case aR => repeat (first | exact (by repeat (first | (with_reducible exact HR147_0.out) | (with_reducible first | apply qka | apply qla | apply qma) | exact HR147_0.out)) | (with_reducible first | apply qka | apply qla | apply qma))); (case aB => exact (by repeat (first | (with_reducible first | exact HB.out | apply qh | apply qe | apply qg) | exact HB.out))); (case aF => exact (fun k_ hk => (qrb (qp (by repeat (first | (with_reducible first | exact HB.out | apply qh | apply qe | apply qg) | exact HB.out))) hk))); (case aO => exact (by (with_reducible repeat first | apply qx | apply qy | apply qz); exact qoa HO146.out (fun _ hk => hk.1))); (case aS => exact (qp (by repeat (first | (with_reducible first | exact HB.out | apply qh | apply qe | apply qg) | exact HB.out)))); (case aL => have := LMc27.out; omega); intro v149 w32 ho hb hg hat; rw [← Ny148.out] at ho; have n0_ := qa (Kd.N_afterv (ok := (fun k_ => (w.heap.size ≤ k_) ∧ some k_ ≠ (.slice (some ad147) t141.length co29 : Value).ownBlock)) (by (with_reducible repeat first | apply qaa | apply qba | apply qca); exact HO_5.out) hg hat); have n1_ := qa (Kd.N_afterv (ok := (fun k_ => (w.heap.size ≤ k_) ∧ some k_ ≠ (u5 : Value).ownBlock)) (by (with_reducible repeat first | apply qaa | apply qba | apply qca); exact HO_6.out) hg hat); have n2_ := qa (Kd.V_afterv (ok := (fun k_ => (w.heap.size ≤ k_) ∧ some k_ ≠ (u5 : Value).ownBlock ∧ some k_ ≠ (.slice (some ad147) t141.length co29 : Value).ownBlock)) (by (with_reducible repeat first | apply qda | apply qea | apply qfa); exact qna HL147_0.out (fun _ hk => ⟨⟨hk.1.1.1, ⟨hk.1.1.2, hk.2⟩⟩, hk.1.2⟩)) hg hat); have n3_ := qa (hb); have n4_ := qa (ho); clear HO_5; clear HO_6; clear HL147_0; clear HB; clear HO146; have HO_5 := n0_; have HO_6 := n1_; have HL147_0 := n2_; have HB := n3_; have HO150 := n4_; clear n0_ n1_ n2_ n3_ n4_; clear ho hb hg hat; obtain ⟨Ao34, co34, eo34⟩ := Kd.R_slice HO150.out; subst eo34) | ((with_reducible refine gate_builtin (b := .append) (xs := #[.tmp 61, .tmp 72]) rfl ?_); at_builtin; refine Kd.N_append (Kd.slice 59 k59) (w0 := w) w.heap.size rfl (.tmp 61) (.tmp 72) 63 29 (.slice none 0 0) 24 rfl Tryd.underlying63 info29 rfl (by decide) (by omega) u5 x5_5 y148 [.slice Ao34 y148.length co34] (fun k_ => (w.heap.size ≤ k_) ∧ some k_ ≠ (.slice (some ad147) t141.length co29 : Value).ownBlock) (fun k_ => ((fun k_ => (w.heap.size ≤ k_) ∧ some k_ ≠ (.slice (some ad147) t141.length co29 : Value).ownBlock)) k_ ∧ some k_ ≠ (u5 : Value).ownBlock) rfl rfl ?aP (fun _ hk => hk) ?aF ?aO ?aB ?aS ?aL ?_; (case aP => exact (Kd.FK_slice_mk (qgb (qoa (ok' := (fun k_ => ((fun k_ => (w.heap.size ≤ k_) ∧ some k_ ≠ (.slice (some ad147) t141.length co29 : Value).ownBlock)) k_ ∧ some k_ ≠ (u5 : Value).ownBlock)) (Kd.R_apart' (Kd.R_apart' (HO150.out) (Kd.N_typed HO_6.out) (by decide)) (Kd.N_typed HO_5.out) (by decide)) (fun k_ hk => ⟨⟨hk.1.1, hk.1.2⟩, hk.2⟩))).2.1 (Kd.R_F (qoa (ok' := (fun k_ => ((fun k_ => (w.heap.size ≤ k_) ∧ some k_ ≠ (.slice (some ad147) t141.length co29 : Value).ownBlock)) k_ ∧ some k_ ≠ (u5 : Value).ownBlock)) (Kd.R_apart' (Kd.R_apart' (HO150.out) (Kd.N_typed HO_6.out) (by decide)) (Kd.N_typed HO_5.out) (by decide)) (fun k_ hk => ⟨⟨hk.1.1, hk.1.2⟩, hk.2⟩))))); (case aB => exact (by repeat (first | (with_reducible first | exact HB.out | apply qh | apply qe | apply qg) | exact HB.out))); (case aF => exact (fun k_ hk => ⟨(qrb (qp (by repeat (first | (with_reducible first | exact HB.out | apply qh | apply qe | apply qg) | exact HB.out))) hk), Kd.fresh' (Kd.N_lt (by (with_reducible repeat first | apply qaa | apply qba | apply qca); exact HO_6.out)) k_ hk⟩)); (case aO => exact (by (with_reducible repeat first | apply qaa | apply qba | apply qca); exact qpa HO_5.out (fun _ hk => ⟨hk.1.1, hk.1.2⟩))); (case aS => exact (qp (by repeat (first | (with_reducible first | exact HB.out | apply qh | apply qe | apply qg) | exact HB.out)))); (case aL => have := LMc28.out; omega); intro v152 w33 ho hb hg hat; rw [← Ny151.out] at ho; have n0_ := qa (Kd.N_afterv (ok := (fun k_ => (w.heap.size ≤ k_) ∧ some k_ ≠ (.slice Ao34 y148.length co34 : Value).ownBlock)) (by (with_reducible repeat first | apply qaa | apply qba | apply qca); exact qpa HO_6.out (fun _ hk => ⟨⟨hk.1.1, hk.2⟩, hk.1.2⟩)) hg hat); have n1_ := qa (Kd.V_afterv (ok := (fun k_ => (w.heap.size ≤ k_) ∧ some k_ ≠ (.slice (some ad147) t141.length co29 : Value).ownBlock ∧ some k_ ≠ (.slice Ao34 y148.length co34 : Value).ownBlock)) (by (with_reducible repeat first | apply qda | apply qea | apply qfa); exact qna HL147_0.out (fun _ hk => ⟨⟨hk.1.1, ⟨hk.1.2.2, hk.2⟩⟩, hk.1.2.1⟩)) hg hat); have n2_ := qa (hb); have n3_ := qa (ho); clear HO_6; clear HL147_0; clear HB; clear HO_5; clear HO150; have HO_6 := n0_; have HL147_0 := n1_; have HB := n2_; have HO153 := n3_; clear n0_ n1_ n2_ n3_; clear ho hb hg hat))
                   go_roundg k5
                   case measure => have := HK1.out; have := HK2.out; have := HJ18.out; have := HK4.out; have := HK5.out; omega
                   case rel => exact ⟨(y151), (wrap64 (x10_5 + 1)), (by first | rfl | (simp; done) | (simp [*]; done)), H', ⟨by have := HK1.out; have := HK2.out; have := HJ18.out; have := HK4.out; have := HK5.out; omega⟩, ⟨by (with_reducible repeat first | apply qaa | apply qba | apply qca); exact HO153.out⟩, ⟨by (with_reducible repeat first | apply qaa | apply qba | apply qca); exact qpa HO_6.out (fun _ hk => ⟨hk.1.1, hk.2⟩)⟩, ⟨by repeat (first | (with_reducible first | exact HB.out | apply qh | apply qe | apply qg) | exact HB.out)⟩⟩
                  ·rw [if_neg c28] at H
                   exact absurd H (by simp)
                 ·rw [if_neg c27] at H
                  exact absurd H (by simp)
                ·rw [if_neg c26] at H
                 exact absurd H (by simp)
               ·rw [if_neg c25] at H
                have c25b0 : decide (x10_5 < (t141.length : Int)) = false := qr c25; clear c25; have H' := qa H; clear H; obtain ⟨Ao35, co35, eo35⟩ := Kd.N_slice HO_6.out; subst eo35; go_wp2
                go_roundg k5
                case measure => have := HK1.out; have := HK2.out; have := HJ18.out; have := HK4.out; have := HK5.out; omega
                case rel => exact ⟨(x5_5), (wrap64 (x9_4 + 1)), (by first | rfl | (simp; done) | (simp [*]; done)), H', ⟨by have := HK1.out; have := HK2.out; have := HJ18.out; have := HK4.out; have := HK5.out; omega⟩, ⟨by (with_reducible repeat first | apply qaa | apply qba | apply qca); exact HO_5.out⟩, ⟨by (with_reducible repeat first | apply qaa | apply qba | apply qca); exact HO_6.out⟩, ⟨by repeat (first | (with_reducible first | exact HB.out | apply qh | apply qe | apply qg) | exact HB.out)⟩⟩
            ·rw [if_neg c24] at H
             have c24b0 : decide (x9_4 < x8_2) = false := qr c24; clear c24; have H' := qa H; clear H; go_wp2
             go_roundg k4
             case measure => have := HK1.out; have := HK2.out; have := HJ18.out; have := HK4.out; omega
             case rel => exact ⟨(x5_4), (wrap64 (x8_2 + 1)), (by first | rfl | (simp; done) | (simp [*]; done)), H', ⟨by have := HK1.out; have := HK2.out; have := HJ18.out; have := HK4.out; omega⟩, ⟨by (with_reducible repeat first | apply qaa | apply qba | apply qca); exact qpa HO_5.out (fun _ hk => hk.1)⟩, ⟨by repeat (first | (with_reducible first | exact HB.out | apply qh | apply qe | apply qg) | exact HB.out)⟩⟩
         ·replace c21 := Bool.eq_false_iff.mpr c21
          subst c21; rw [if_neg (show ¬ (false = true) by decide)] at H; have H1 := H; clear H; have H := H1; clear H1; obtain rfl := qia H; go_wp2; go_ret; exact ⟨_, by first | rfl | (simp [*] <;> rfl), by (with_reducible repeat first | apply qaa | apply qba | apply qca); exact HO_5.out, by repeat (first | (with_reducible first | exact HB.out | apply qh | apply qe | apply qg) | exact HB.out)⟩
theorem zsa : type_of% @IsS75.alloc := @IsS75.alloc
theorem zsb : type_of% @IsS75.drewN := @IsS75.drewN
theorem zsc : type_of% @IsS75.drew := @IsS75.drew
theorem zsd : type_of% @IsS75.set_1 := @IsS75.set_1
theorem zse : type_of% @IsS75.set_2 := @IsS75.set_2
theorem zsf : type_of% @IsS75.far := @IsS75.far
theorem zsg : type_of% @IsS75.below := @IsS75.below
theorem zsh : type_of% @IsS75.ge := @IsS75.ge
end Go.Proofs.YtkjpbhncgjhfeaaDoor.PFnFeet
