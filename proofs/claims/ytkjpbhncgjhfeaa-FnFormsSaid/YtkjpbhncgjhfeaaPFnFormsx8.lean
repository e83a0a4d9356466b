import Derived.Test.YtkjpbhncgjhfeaaPFnFormsx0
import Derived.Test.YtkjpbhncgjhfeaaPFnFormsx2
import Derived.Test.YtkjpbhncgjhfeaaPFnFormsx6
namespace Go.Proofs.Ytkjpbhncgjhfeaa.PFnForms
open Go.RowKit Go.Proofs.YtkjpbhncgjhfeaaW.PrintWords Go.Proofs.YtkjpbhncgjhfeaaW.PrintLast Go.Proofs.YtkjpbhncgjhfeaaW.PrintMore
attribute [local go_sem] max2_int min2_int max_two min_two max_three min_three max_four min_four
set_option linter.unusedVariables false
set_option linter.unusedSimpArgs false
set_option maxHeartbeats 8000000
set_option maxRecDepth 100000
def spec_ReverseForm.l0 : Nat → ByteArray → ByteArray → Int → Option (ByteArray)
 | 0, _, _, _ => none
 | k + 1, x0, x3, x4 => if x4 < (x0.size : Int) then (if 0 ≤ x4 then (if x4 ≤ (wrap64 (x4 + 1)) then (if (wrap64 (x4 + 1)) ≤ (x0.size : Int) then (if (x0.extract (x4 : Int).toNat ((wrap64 (x4 + 1)) : Int).toNat).size + x3.size ≤ 9223372036854775807 then (spec_ReverseForm.l0 k x0 ((x0.extract (x4 : Int).toNat ((wrap64 (x4 + 1)) : Int).toNat) ++ x3) (wrap64 (x4 + 1))) else (none)) else (none)) else (none)) else (none)) else (some x3)
def spec_ReverseForm.f (k : Nat) (a0 : ByteArray) : Option (ByteArray) := spec_ReverseForm.l0 k a0 (⟨#[]⟩ : ByteArray) 0
theorem spec_ReverseForm.calls (k : Nat) (a0 : ByteArray) (r : ByteArray) (w : World) (h : spec_ReverseForm.f k a0 = some r) :
  Calls Try.prog 17 #[.string a0] w fun e w' => e = .returned (.string r) ∧ Drawn0 w w' := by
 have H := h; unfold spec_ReverseForm.f at H; clear h; have H' := qa H; clear H; go_enter Try.func17, Try.ntmps17; go_wp2
 go_loopg [3, 4] k (fun kq v3 v4 w' => ∃ (x3_1 : ByteArray) (x4_1 : Int), v3 = .string x3_1 ∧ v4 = .int .i64 x4_1 ∧ Aside0 (spec_ReverseForm.l0 kq a0 x3_1 x4_1 = some r) ∧ Aside0 (kq ≤ k) ∧ Drawn0 w w')
 case atStart => exact ⟨((⟨#[]⟩ : ByteArray)), (0), (by first | rfl | (simp; done) | (simp [*]; done)), (by first | rfl | (simp; done) | (simp [*]; done)), H', ⟨qva _⟩, by repeat (first | exact Drawn0.refl _ | apply Drawn0.step)⟩
 case round =>
  clear H'; (try clear c1); obtain ⟨x3_1, x4_1, rfl, rfl, HA, HK1, ⟨m1, rfl⟩⟩ := hrel
  cases gk with
  | zero => exact absurd HA.out (by simp [spec_ReverseForm.l0])
  | succ k1 =>
   have H := HA.out; clear HA; simp only [spec_ReverseForm.l0] at H
   by_cases c2 : x4_1 < (a0.size : Int)
   ·rw [if_pos c2] at H
    have c2b0 : decide (x4_1 < (a0.size : Int)) = true := qq c2; clear c2
    by_cases c3 : 0 ≤ x4_1
    ·rw [if_pos c3] at H
     have c3b0 := qaa c3; have c3b1 : decide (0 ≤ x4_1) = true := qq c3; clear c3
     by_cases c4 : x4_1 ≤ (wrap64 (x4_1 + 1))
     ·rw [if_pos c4] at H
      have c4b0 := qaa c4; have c4b1 : decide (x4_1 ≤ (wrap64 (x4_1 + 1))) = true := qq c4
      by_cases c5 : (wrap64 (x4_1 + 1)) ≤ (a0.size : Int)
      ·rw [if_pos c5] at H
       have c5b0 := qaa c5; have c5b1 : decide ((wrap64 (x4_1 + 1)) ≤ (a0.size : Int)) = true := qq c5
       by_cases c6 : (a0.extract (x4_1 : Int).toNat ((wrap64 (x4_1 + 1)) : Int).toNat).size + x3_1.size ≤ 9223372036854775807
       ·rw [if_pos c6] at H
        have c6b0 := qaa c6; have c6b1 : decide ((a0.extract (x4_1 : Int).toNat ((wrap64 (x4_1 + 1)) : Int).toNat).size + x3_1.size ≤ 9223372036854775807) = true := qq c6; (try have c6x : (9223372036854775807 < ((wrap64 (x4_1 + 1)).toNat - x4_1.toNat) + x3_1.size) = False := eq_false (by have h_ := c6; (try simp only [decide_eq_true_eq] at *); (try simp only [ByteArray.size_append, ByteArray.size_extract] at h_); omega))
        try have c6b2 : (9223372036854775807 < (a0.extract (x4_1 : Int).toNat ((wrap64 (x4_1 + 1)) : Int).toNat).size + x3_1.size) = False := eq_false (Nat.not_lt.2 c6)
        have H' := qa H; clear H; go_wp2
        go_roundg k1
        case measure => have := HK1.out; omega
        case rel => exact ⟨((a0.extract (x4_1 : Int).toNat ((wrap64 (x4_1 + 1)) : Int).toNat) ++ x3_1), (wrap64 (x4_1 + 1)), (by first | rfl | (simp; done) | (simp [*]; done)), (by first | rfl | (simp; done) | (simp [*]; done)), H', ⟨by have := HK1.out; omega⟩, by repeat (first | exact Drawn0.refl _ | apply Drawn0.step)⟩
       ·rw [if_neg c6] at H
        exact absurd H (by simp)
      ·rw [if_neg c5] at H
       exact absurd H (by simp)
     ·rw [if_neg c4] at H
      exact absurd H (by simp)
    ·rw [if_neg c3] at H
     exact absurd H (by simp)
   ·rw [if_neg c2] at H
    have c2b0 : decide (x4_1 < (a0.size : Int)) = false := qr c2; clear c2; obtain rfl := qca H; go_wp2; go_ret; exact ⟨by first | rfl | (simp; done) | (simp [*]; done), by repeat (first | exact Drawn0.refl _ | apply Drawn0.step)⟩
def impl_DistanceBetween.lev (a b : ByteArray) : Nat → Nat → Nat
 | 0, k => k
 | i + 1, 0 => i + 1
 | i + 1, k + 1 => if bt a (i : Int) = bt b (k : Int) then impl_DistanceBetween.lev a b i k else 1 + min (min (impl_DistanceBetween.lev a b i (k + 1)) (impl_DistanceBetween.lev a b (i + 1) k)) (impl_DistanceBetween.lev a b i k)
termination_by i k => (i, k)
def impl_DistanceBetween.f (k : Nat) (a0 : ByteArray) (a1 : ByteArray) : Option (Int) := (impl_IsForm.f k a0).bind fun x => (if x = true then ((impl_IsForm.f k a1).bind fun y => (if y = true then (some (impl_DistanceBetween.lev a0 a1 a0.size a1.size : Int)) else (some (-1)))) else (some (-1)))
theorem impl_DistanceBetween.cellD {W : World} {g : Nat} {T : List Int} (h : W.heap[g]? = some (.cells (T.map (fun z => Value.int .i64 z)).toArray 65 (0, 0))) (hT : T.length = 81) (n : Nat) (hn : n < 81) : W.cell? ⟨g, n, none⟩ = some (.int .i64 (T.getD n 0)) := by
 refine (qi h n).trans ?_; rw [List.getElem?_toArray, List.getElem?_map, List.getD_eq_getElem?_getD, List.getElem?_eq_getElem (by omega)]; rfl
theorem impl_DistanceBetween.putD {W : World} {g : Nat} {T : List Int} (h : W.heap[g]? = some (.cells (T.map (fun z => Value.int .i64 z)).toArray 65 (0, 0))) (n : Nat) (v : Int) : (W.setCell ⟨g, n, none⟩ (.int .i64 v)).heap[g]? = some (.cells ((T.set n v).map (fun z => Value.int .i64 z)).toArray 65 (0, 0)) :=
 qta h n _ (by rw [qb, List.map_set])
theorem impl_DistanceBetween.lev_le (a b : ByteArray) : ∀ i k, impl_DistanceBetween.lev a b i k ≤ i + k := by
 intro i
 induction i with
 | zero => intro k; rw [impl_DistanceBetween.lev]; omega
 | succ i ih =>
  intro k
  induction k with
  | zero => rw [impl_DistanceBetween.lev]; omega
  | succ k ihk =>
   rw [impl_DistanceBetween.lev]; have h1 := ih k; have h2 := ih (k + 1)
   split <;> omega
theorem impl_DistanceBetween.form_le (k : Nat) (a : ByteArray) (h : impl_IsForm.f k a = some true) : a.size ≤ 8 := by
 unfold impl_IsForm.f at h
 split at h
 ·rename_i h0
  have : a.toList = a.data.toList := Go.ByteArray.toList_eq a; have h1 : a.data.toList.length = a.size := Array.length_toList; rw [this] at h0; rw [h0] at h1
  simp at h1
  omega
 ·split at h
  ·omega
  ·simp at h
theorem impl_DistanceBetween.calls (k : Nat) (a0 : ByteArray) (a1 : ByteArray) (r : Int) (w : World) (h : impl_DistanceBetween.f k a0 a1 = some r) :
  Calls Try.prog 18 #[.string a0, .string a1] w fun e w' => e = .returned (.int .i64 r) ∧ Below w.heap.size w w' := by
 have HB := qa (qwa w.heap.size w); have HC3 := qa h; clear h; go_enter Try.func18, Try.ntmps18
 go_upto_region 1 with (fail)
 repeat (go_quiet (fail); go_upto_region 1 with (fail))
 go_cut [15] (fun v18 wc => ∃ (b : Bool), v18 = .bool b ∧ Aside0 (if b = true then r = -1 else r = (impl_DistanceBetween.lev a0 a1 a0.size a1.size : Int)) ∧ Aside0 (b = false → a0.size ≤ 8 ∧ a1.size ≤ 8) ∧ Aside0 (Below w.heap.size w wc))
 case first =>
  have H := HC3.out; clear HC3; unfold impl_DistanceBetween.f at H; obtain ⟨t1, A1, H⟩ := zb H; have A4 := qa A1; clear A1
  by_cases c5 : t1 = true
  ·subst c5
   rw [if_pos rfl] at H; obtain ⟨t2, A2, H⟩ := zb H; have A6 := qa A2; clear A2
   have HT : Aside0 ((!t2) = false → a0.size ≤ 8 ∧ a1.size ≤ 8) := ⟨by
    cases t2 with
    | false => intro ht; cases ht
    | true => exact fun _ => ⟨impl_DistanceBetween.form_le _ _ A4.out, impl_DistanceBetween.form_le _ _ A6.out⟩⟩
   have HR : Aside0 (if (!t2) = true then r = -1 else r = (impl_DistanceBetween.lev a0 a1 a0.size a1.size : Int)) := ⟨by
    cases t2 <;> simp at H ⊢ <;> exact H.symm⟩
   clear H
   go_wp2_with (first | (go_at_call 14; (with_reducible refine (impl_IsForm.calls k a0 true _ A4.out).mono ?_); rintro e w' ⟨rfl, ⟨nd, rfl⟩⟩; (try first | exact ⟨rfl, _, World.drewN_drewN _ _ _⟩ | exact ⟨rfl, _, Eq.trans (World.drewN_drewN _ _ _) (congrArg (World.drewN _) (Nat.add_assoc _ _ _))⟩)) | (go_at_call 14; (with_reducible refine (impl_IsForm.calls k a1 t2 _ A6.out).mono ?_); rintro e w' ⟨rfl, ⟨nd, rfl⟩⟩; (try first | exact ⟨rfl, _, World.drewN_drewN _ _ _⟩ | exact ⟨rfl, _, Eq.trans (World.drewN_drewN _ _ _) (congrArg (World.drewN _) (Nat.add_assoc _ _ _))⟩)))
   repeat (go_quiet (first | (go_at_call 14; (with_reducible refine (impl_IsForm.calls k a0 true _ A4.out).mono ?_); rintro e w' ⟨rfl, ⟨nd, rfl⟩⟩; (try first | exact ⟨rfl, _, World.drewN_drewN _ _ _⟩ | exact ⟨rfl, _, Eq.trans (World.drewN_drewN _ _ _) (congrArg (World.drewN _) (Nat.add_assoc _ _ _))⟩)) | (go_at_call 14; (with_reducible refine (impl_IsForm.calls k a1 t2 _ A6.out).mono ?_); rintro e w' ⟨rfl, ⟨nd, rfl⟩⟩; (try first | exact ⟨rfl, _, World.drewN_drewN _ _ _⟩ | exact ⟨rfl, _, Eq.trans (World.drewN_drewN _ _ _) (congrArg (World.drewN _) (Nat.add_assoc _ _ _))⟩))); try go_wp2_with (first | (go_at_call 14; (with_reducible refine (impl_IsForm.calls k a0 true _ A4.out).mono ?_); rintro e w' ⟨rfl, ⟨nd, rfl⟩⟩; (try first | exact ⟨rfl, _, World.drewN_drewN _ _ _⟩ | exact ⟨rfl, _, Eq.trans (World.drewN_drewN _ _ _) (congrArg (World.drewN _) (Nat.add_assoc _ _ _))⟩)) | (go_at_call 14; (with_reducible refine (impl_IsForm.calls k a1 t2 _ A6.out).mono ?_); rintro e w' ⟨rfl, ⟨nd, rfl⟩⟩; (try first | exact ⟨rfl, _, World.drewN_drewN _ _ _⟩ | exact ⟨rfl, _, Eq.trans (World.drewN_drewN _ _ _) (congrArg (World.drewN _) (Nat.add_assoc _ _ _))⟩))))
   go_meet
   case rel => exact ⟨(!t2), (by first | rfl | (simp; done) | (simp [*]; done)), HR, HT, ⟨by repeat (first | (with_reducible first | exact HB.out | apply qh | apply qe | apply qg) | exact HB.out)⟩⟩
  ·replace c5 := Bool.eq_false_iff.mpr c5
   subst c5
   have HT : Aside0 (true = false → a0.size ≤ 8 ∧ a1.size ≤ 8) := ⟨fun ht => by cases ht⟩
   have HR : Aside0 (if true = true then r = -1 else r = (impl_DistanceBetween.lev a0 a1 a0.size a1.size : Int)) := ⟨by
    simp at H ⊢; exact H.symm⟩
   clear H
   go_wp2_with (first | (go_at_call 14; (with_reducible refine (impl_IsForm.calls k a0 false _ A4.out).mono ?_); rintro e w' ⟨rfl, ⟨nd, rfl⟩⟩; (try first | exact ⟨rfl, _, World.drewN_drewN _ _ _⟩ | exact ⟨rfl, _, Eq.trans (World.drewN_drewN _ _ _) (congrArg (World.drewN _) (Nat.add_assoc _ _ _))⟩)))
   repeat (go_quiet (first | (go_at_call 14; (with_reducible refine (impl_IsForm.calls k a0 false _ A4.out).mono ?_); rintro e w' ⟨rfl, ⟨nd, rfl⟩⟩; (try first | exact ⟨rfl, _, World.drewN_drewN _ _ _⟩ | exact ⟨rfl, _, Eq.trans (World.drewN_drewN _ _ _) (congrArg (World.drewN _) (Nat.add_assoc _ _ _))⟩))); try go_wp2_with (first | (go_at_call 14; (with_reducible refine (impl_IsForm.calls k a0 false _ A4.out).mono ?_); rintro e w' ⟨rfl, ⟨nd, rfl⟩⟩; (try first | exact ⟨rfl, _, World.drewN_drewN _ _ _⟩ | exact ⟨rfl, _, Eq.trans (World.drewN_drewN _ _ _) (congrArg (World.drewN _) (Nat.add_assoc _ _ _))⟩))))
   go_meet
   case rel => exact ⟨true, (by first | rfl | (simp; done) | (simp [*]; done)), HR, HT, ⟨by repeat (first | (with_reducible first | exact HB.out | apply qh | apply qe | apply qg) | exact HB.out)⟩⟩
 case rest =>
  obtain ⟨b, rfl, HA, HS, HB⟩ := hcut; have HBc := HB
  cases b with
  | true =>
   go_wp2; go_ret; have hr := HA.out; simp only [if_true] at hr; exact ⟨by rw [hr]; rfl, HB.out⟩
  | false =>
   have hr := HA.out; simp only [Bool.false_eq_true, if_false] at hr; obtain ⟨s0, s1⟩ := HS.out rfl
   have hst : ∀ W : World, (storeCells ⟨W.heap.size, 0, none⟩ Try.zeroCells65.toList).run Try.prog (W.alloc (.cells Try.zeroCells65 65)) = .ok () (W.alloc (.cells Try.zeroCells65 65)) := fun W => Go.run_storeCells_new W 65 _ _ (by kernel_rfl) rfl (by kernel_rfl)
   go_wp2
   go_loopg [20] (a0.size + 1) (fun kq v20 w' => ∃ (i : Nat) (T : List Int), v20 = .int .i64 (i : Int) ∧ Aside0 (kq + i = a0.size + 1) ∧ Aside0 (T.length = 81) ∧ Aside0 (w'.heap[wc.heap.size]? = some (.cells (T.map (fun z => Value.int .i64 z)).toArray 65 (0, 0))) ∧ Aside0 (∀ i' k', i' < i → k' ≤ a1.size → T.getD (i' * 9 + k') 0 = (impl_DistanceBetween.lev a0 a1 i' k' : Int)) ∧ Aside0 (Below w.heap.size w w'))
   case atStart =>
    have hz : Try.zeroCells65 = ((List.replicate 81 (0 : Int)).map (fun z => Value.int .i64 z)).toArray := by kernel_rfl
    exact ⟨0, List.replicate 81 0, rfl, ⟨by omega⟩, ⟨rfl⟩, ⟨by rw [← hz]; exact Go.heap_alloc_last wc _⟩, ⟨fun i' k' h => by omega⟩, ⟨qh HB.out _⟩⟩
   case round =>
    obtain ⟨i, T, rfl, HM, HT, HK, HF, HB⟩ := hrel
    by_cases hc : (i : Int) < (a0.size : Int) + 1
    ·have hcb : decide ((i : Int) < (a0.size : Int) + 1) = true := qq hc
     obtain ⟨g1, rfl⟩ : ∃ g, gk = g + 1 := ⟨gk - 1, by have := HM.out; omega⟩
     go_wp2
     go_loopg [26] (a1.size + 1) (fun kq v26 w' => ∃ (kk : Nat) (T' : List Int), v26 = .int .i64 (kk : Int) ∧ Aside0 (kq + kk = a1.size + 1) ∧ Aside0 (T'.length = 81) ∧ Aside0 (w'.heap[wc.heap.size]? = some (.cells (T'.map (fun z => Value.int .i64 z)).toArray 65 (0, 0))) ∧ Aside0 (∀ i' k', (i' < i ∨ (i' = i ∧ k' < kk)) → k' ≤ a1.size → T'.getD (i' * 9 + k') 0 = (impl_DistanceBetween.lev a0 a1 i' k' : Int)) ∧ Aside0 (Below w.heap.size w w'))
     case atStart => exact ⟨0, T, rfl, ⟨by omega⟩, HT, HK, ⟨fun i' k' h hk => HF.out i' k' (by omega) hk⟩, HB⟩
     case round =>
      obtain ⟨kk, T', rfl, HM', HT', HK', HF', HB'⟩ := hrel
      by_cases hd : (kk : Int) < (a1.size : Int) + 1
      ·have hdb : decide ((kk : Int) < (a1.size : Int) + 1) = true := qq hd
       obtain ⟨g2, rfl⟩ : ∃ g, gk = g + 1 := ⟨gk - 1, by have := HM'.out; omega⟩
       have hBb : ∀ n v, Below w.heap.size w (wr.setCell ⟨wc.heap.size, n, none⟩ v) := fun n v => qj HB'.out (qp HBc.out)
       have fin : ∀ v : Int, v = (impl_DistanceBetween.lev a0 a1 i kk : Int) → ∀ i' k', (i' < i ∨ (i' = i ∧ k' < kk + 1)) → k' ≤ a1.size → (T'.set (i * 9 + kk) v).getD (i' * 9 + k') 0 = (impl_DistanceBetween.lev a0 a1 i' k' : Int) := by
        intro v hv i' k' h hk; have hTl := HT'.out; rw [List.getD_eq_getElem?_getD]
        by_cases hp : i' = i ∧ k' = kk
        ·rw [hp.1, hp.2, List.getElem?_set_self (by omega)]; exact hv
        ·rw [List.getElem?_set_ne (by omega), ← List.getD_eq_getElem?_getD]
         exact HF'.out i' k' (by omega) hk
       by_cases hi0 : i = 0
       ·subst hi0
        have hfz := qo HK'.out kk; have hcur := impl_DistanceBetween.cellD HK'.out HT'.out kk (by omega); go_wp2
        go_roundg g2
        case measure => omega
        case rel => exact ⟨kk + 1, T'.set (0 * 9 + kk) (kk : Int), (by first | rfl | (simp; done)), ⟨by have := HM'.out; omega⟩, ⟨by rw [List.length_set]; exact HT'.out⟩, ⟨by rw [Nat.zero_mul, Nat.zero_add]; exact impl_DistanceBetween.putD HK'.out kk (kk : Int)⟩, ⟨fin _ (by rw [impl_DistanceBetween.lev])⟩, ⟨hBb _ _⟩⟩
       ·have e1 : ((i : Int) == 0) = false := beq_eq_false_iff_ne.2 (by omega)
        have e2 : ¬ ((i : Int) = 0) := by omega
        by_cases hk0 : kk = 0
        ·subst hk0
         have hfz := qo HK'.out (i * 9); have hcur := impl_DistanceBetween.cellD HK'.out HT'.out (i * 9) (by omega); go_wp2
         go_roundg g2
         case measure => omega
         case rel => exact ⟨0 + 1, T'.set (i * 9 + 0) (i : Int), (by first | rfl | (simp; done)), ⟨by have := HM'.out; omega⟩, ⟨by rw [List.length_set]; exact HT'.out⟩, ⟨impl_DistanceBetween.putD HK'.out (i * 9) (i : Int)⟩, ⟨fin _ (by cases i <;> rw [impl_DistanceBetween.lev])⟩, ⟨hBb _ _⟩⟩
        ·have e3 : ((kk : Int) == 0) = false := beq_eq_false_iff_ne.2 (by omega)
         have e4 : ¬ ((kk : Int) = 0) := by omega
         obtain ⟨i1, hi1⟩ : ∃ m, i = m + 1 := ⟨i - 1, by omega⟩
         obtain ⟨k1, hk1⟩ : ∃ m, kk = m + 1 := ⟨kk - 1, by omega⟩
         have w1 : wrap64 ((i : Int) - 1) = (i1 : Int) := by unfold wrap64; omega
         have w2 : wrap64 ((kk : Int) - 1) = (k1 : Int) := by unfold wrap64; omega
         have w3 : (i : Int) - 1 = (i1 : Int) := by omega
         have w4 : (kk : Int) - 1 = (k1 : Int) := by omega
         have q1 : ((i1 : Int) < (a0.size : Int)) = True := qaa (by omega); have q2 : ((k1 : Int) < (a1.size : Int)) = True := qaa (by omega)
         have q3 : i1 < a0.size := by omega
         have q4 : k1 < a1.size := by omega
         have x1 := bt_at a0 (i1 : Int); have x2 := bt_at a1 (k1 : Int); have hfz := qo HK'.out (i * 9 + kk); have hcur := impl_DistanceBetween.cellD HK'.out HT'.out (i * 9 + kk) (by omega); have c0 := impl_DistanceBetween.cellD HK'.out HT'.out (i1 * 9 + k1) (by omega); have c1 := impl_DistanceBetween.cellD HK'.out HT'.out (i1 * 9 + kk) (by omega); have c2 := impl_DistanceBetween.cellD HK'.out HT'.out (i * 9 + k1) (by omega); rw [HF'.out i1 k1 (by omega) (by omega)] at c0; rw [HF'.out i1 kk (by omega) (by omega)] at c1; rw [HF'.out i k1 (by omega) (by omega)] at c2; have Hi1 := qa hi1; have Hk1 := qa hk1; clear hi1 hk1; have y1 : ((a0[i1]'q3).toNat : Int) = bt a0 (i1 : Int) := x1 q3; have y2 : ((a1[k1]'q4).toNat : Int) = bt a1 (k1 : Int) := x2 q4
         by_cases hq : bt a0 (i1 : Int) = bt a1 (k1 : Int)
         ·have hqb : (((a0[i1]'q3).toNat : Int) == ((a1[k1]'q4).toNat : Int)) = true := by rw [y1, y2]; exact beq_iff_eq.2 hq
          have Hq := qa hq; clear hq y1 y2 x1 x2; go_wp2
          go_quiet (fail)
          go_wp2; have b1 : IntKind.i64.wrap ((i : Int) - 1) = (i1 : Int) := (IntWalk.i64_in _ ⟨by omega, by omega⟩).trans w3; have b2 : IntKind.i64.wrap ((kk : Int) - 1) = (k1 : Int) := (IntWalk.i64_in _ ⟨by omega, by omega⟩).trans w4
          have b3 : (i1 : Int) < 9 := by omega
          have b4 : (k1 : Int) < 9 := by omega
          have b5 : (i : Int) < 9 := by have := s0; omega
          have b6 : (kk : Int) < 9 := by have := s1; omega
          generalize hwq : World.drewN wr nq = wq
          have hfz' : wq.frozen? ⟨wc.heap.size, i * 9 + kk, none⟩ = false := by rw [← hwq]; exact hfz
          have hcur' : wq.cell? ⟨wc.heap.size, i * 9 + kk, none⟩ = some (.int .i64 (T'.getD (i * 9 + kk) 0)) := by rw [← hwq]; exact hcur
          have c0' : wq.cell? ⟨wc.heap.size, i1 * 9 + k1, none⟩ = some (.int .i64 (impl_DistanceBetween.lev a0 a1 i1 k1 : Int)) := by rw [← hwq]; exact c0
          have HKq : Aside0 (wq.heap[wc.heap.size]? = some (.cells (T'.map (fun z => Value.int .i64 z)).toArray 65 (0, 0))) := ⟨by rw [← hwq]; exact HK'.out⟩
          have hBq : Aside0 (∀ n v, Below w.heap.size w ((wq.setCell ⟨wc.heap.size, n, none⟩ v).drew)) := ⟨fun n v => by rw [← hwq]; exact below_drew (qj (qe HB'.out nq) (qp HBc.out))⟩
          clear hfz hcur c0 c1 c2 hBb; have Hwq := qa hwq; clear hwq
          go_region
          go_wp2
          go_roundg g2
          case measure => omega
          case rel => exact ⟨kk + 1, T'.set (i * 9 + kk) (impl_DistanceBetween.lev a0 a1 i1 k1 : Int), (by first | rfl | (simp; done)), ⟨by have := HM'.out; omega⟩, ⟨by rw [List.length_set]; exact HT'.out⟩, ⟨impl_DistanceBetween.putD HKq.out (i * 9 + kk) _⟩, ⟨fin _ (by rw [Hi1.out, Hk1.out, impl_DistanceBetween.lev, if_pos Hq.out])⟩, ⟨hBq.out _ _⟩⟩
         ·have hqb : (((a0[i1]'q3).toNat : Int) == ((a1[k1]'q4).toNat : Int)) = false := by rw [y1, y2]; exact beq_eq_false_iff_ne.2 hq
          have Hq := qa hq; clear hq y1 y2 x1 x2; go_wp2
          go_quiet (fail)
          go_wp2; have b1 : IntKind.i64.wrap ((i : Int) - 1) = (i1 : Int) := (IntWalk.i64_in _ ⟨by omega, by omega⟩).trans w3; have b2 : IntKind.i64.wrap ((kk : Int) - 1) = (k1 : Int) := (IntWalk.i64_in _ ⟨by omega, by omega⟩).trans w4
          have b3 : (i1 : Int) < 9 := by omega
          have b4 : (k1 : Int) < 9 := by omega
          have b5 : (i : Int) < 9 := by have := s0; omega
          have b6 : (kk : Int) < 9 := by have := s1; omega
          generalize hwq : World.drewN wr nq = wq
          have hfz' : wq.frozen? ⟨wc.heap.size, i * 9 + kk, none⟩ = false := by rw [← hwq]; exact hfz
          have hcur' : wq.cell? ⟨wc.heap.size, i * 9 + kk, none⟩ = some (.int .i64 (T'.getD (i * 9 + kk) 0)) := by rw [← hwq]; exact hcur
          have c0' : wq.cell? ⟨wc.heap.size, i1 * 9 + k1, none⟩ = some (.int .i64 (impl_DistanceBetween.lev a0 a1 i1 k1 : Int)) := by rw [← hwq]; exact c0
          have c1' : wq.cell? ⟨wc.heap.size, i1 * 9 + kk, none⟩ = some (.int .i64 (impl_DistanceBetween.lev a0 a1 i1 kk : Int)) := by rw [← hwq]; exact c1
          have c2' : wq.cell? ⟨wc.heap.size, i * 9 + k1, none⟩ = some (.int .i64 (impl_DistanceBetween.lev a0 a1 i k1 : Int)) := by rw [← hwq]; exact c2
          have HKq : Aside0 (wq.heap[wc.heap.size]? = some (.cells (T'.map (fun z => Value.int .i64 z)).toArray 65 (0, 0))) := ⟨by rw [← hwq]; exact HK'.out⟩
          have hBq : Aside0 (∀ n v, Below w.heap.size w ((wq.setCell ⟨wc.heap.size, n, none⟩ v).drew)) := ⟨fun n v => by rw [← hwq]; exact below_drew (qj (qe HB'.out nq) (qp HBc.out))⟩
          clear hfz hcur c0 c1 c2 hBb; have Hwq := qa hwq; clear hwq; have l0 := impl_DistanceBetween.lev_le a0 a1 i1 k1; have l1 := impl_DistanceBetween.lev_le a0 a1 i1 kk; have l2 := impl_DistanceBetween.lev_le a0 a1 i k1
          obtain ⟨y0, hy0⟩ : ∃ y : Nat, impl_DistanceBetween.lev a0 a1 i1 k1 = y := ⟨_, rfl⟩
          obtain ⟨y1, hy1⟩ : ∃ y : Nat, impl_DistanceBetween.lev a0 a1 i1 kk = y := ⟨_, rfl⟩
          obtain ⟨y2, hy2⟩ : ∃ y : Nat, impl_DistanceBetween.lev a0 a1 i k1 = y := ⟨_, rfl⟩
          rw [hy0] at c0' l0; rw [hy1] at c1' l1; rw [hy2] at c2' l2
          have m0 : y0 ≤ 100 := by have := s0; have := s1; omega
          have m1 : y1 ≤ 100 := by have := s0; have := s1; omega
          have m2 : y2 ≤ 100 := by have := s0; have := s1; omega
          have Hy0 := qa hy0; have Hy1 := qa hy1; have Hy2 := qa hy2; clear hy0 hy1 hy2
          have Hv : Aside0 (∀ v : Int, v = 1 + min (min (y1 : Int) y2) y0 → v = (impl_DistanceBetween.lev a0 a1 i kk : Int)) := ⟨by
           intro v hv; have e0 := Hy0.out; have e1 := Hy1.out; have e2 := Hy2.out; have hi := Hi1.out; have hk := Hk1.out; rw [hk] at e1; rw [hi] at e2; rw [hi, hk, impl_DistanceBetween.lev, if_neg Hq.out, e0, e1, e2]
           omega⟩
          go_region
          go_wp2
          all_goals
           go_roundg g2
           case measure => omega
           case rel => exact ⟨kk + 1, T'.set (i * 9 + kk) _, (by first | rfl | (simp; done)), ⟨by have := HM'.out; omega⟩, ⟨by rw [List.length_set]; exact HT'.out⟩, ⟨impl_DistanceBetween.putD HKq.out (i * 9 + kk) _⟩, ⟨fin _ (Hv.out _ (by clear HM' HT' HK' HF' HB' fin; first | omega | (simp_all; omega)))⟩, ⟨hBq.out _ _⟩⟩
      ·have hdb : decide ((kk : Int) < (a1.size : Int) + 1) = false := qr hd
       have hkk : kk = a1.size + 1 := by have := HM'.out; omega
       go_wp2
       go_roundg g1
       case measure => omega
       case rel => exact ⟨i + 1, T', (by first | rfl | (simp; done)), ⟨by have := HM.out; omega⟩, HT', HK', ⟨fun i' k' h hk => HF'.out i' k' (by omega) hk⟩, HB'⟩
    ·have hcb : decide ((i : Int) < (a0.size : Int) + 1) = false := qr hc
     have hi : i = a0.size + 1 := by have := HM.out; omega
     have hcell := impl_DistanceBetween.cellD HK.out HT.out (a0.size * 9 + a1.size) (by omega); rw [HF.out a0.size a1.size (by omega) (qva _), ← hr] at hcell; go_wp2; go_ret; exact ⟨rfl, HB.out⟩
def spec_l1Once.f (s0_0 : List Int) (s0_1 : Int) (s0_2 : Int) (a1 : Int) : Option (Bool × Int × Int) := (spec_l1Below.f s0_0 s0_1 s0_2 a1).bind fun bt214 => (some ((bt214.1 == 0), bt214.2.1, bt214.2.2))
theorem spec_l1Once.calls (g : Nat) (s0_0 : List Int) (s0_1 : Int) (s0_2 : Int) (a1 : Int) (r1 : Bool) (r2 : Int) (r3 : Int) (w0 w : World) (hI : IsS74 w0 w g s0_0 s0_1 s0_2) (hB : Below w0.heap.size w0 w) (h : spec_l1Once.f s0_0 s0_1 s0_2 a1 = some (r1, r2, r3)) :
  Calls Try.prog 67 #[.pointer (some ⟨g, 0, none⟩), .int .i64 a1] w fun e w' => e = .returned (.bool r1) ∧ IsS74 w0 w' g s0_0 r2 r3 ∧ Below w0.heap.size w0 w' ∧ KeepBut w w' g none := by
 have HI0 := qa hI; have HK := qa (KeepBut.refl w g none); have HL := qa hB.size; clear hI; have HW0 := qa hB.size; have HB := qa hB; clear hB; have H := h; unfold spec_l1Once.f at H; clear h; obtain ⟨⟨t214, t215, t216⟩, A30, H⟩ := zb H; (try dsimp only at H); have A3 := qa A30; clear A30; simp only [Option.some.injEq, Prod.mk.injEq] at H; obtain ⟨rfl, rfl, rfl⟩ := H; go_enter Try.func67, Try.ntmps67
 go_wp2_with (first | ((with_reducible refine qqa (f := 68) rfl ?_); refine goesL_ (some 7) rfl rfl Try.func68 (by kernel_rfl) rfl #[.pointer (some ⟨g, 0, none⟩), .int .i64 a1] rfl (by (try simp only [qs, qv, qw]); first | done | rfl | (simp only [qu, qt]; rfl)) ?_; (with_reducible refine (spec_l1Below.calls g s0_0 s0_1 s0_2 a1 t214 t215 t216 w0 _ ?side1 ?side2 A3.out).mono ?_); (case side1 => repeat (first | (with_reducible first | exact HI0.out | apply IsS74.alloc | apply IsS74.drewN | apply IsS74.drew | apply IsS74.set_1 | apply IsS74.set_2) | exact HI0.out)); (case side2 => repeat (first | (with_reducible first | exact HB.out | apply qh | apply qe | apply qg | refine qj ?_ (IsS74.ge HI0.out)) | exact HB.out)); rintro e w4 ⟨rfl, hi, hb, hk⟩; refine ⟨_, rfl, ?_⟩; have n0_ := qa (qpa (by repeat (first | (with_reducible first | exact HK.out | apply qha | apply qia | apply qka | apply qja) | exact HK.out)) hk (.inl rfl)); have n1_ := qa (hb); have n2_ := qa (hi); clear HK; clear HB; clear HI0; have HK := n0_; have HB := n1_; have HI0 := n2_; clear n0_ n1_ n2_; (try clear hb); (try clear hb2); (try clear hk); (try clear hi)))
 go_ret; exact ⟨by first | rfl | (simp [*] <;> rfl), by repeat (first | (with_reducible first | exact HI0.out | apply IsS74.alloc | apply IsS74.drewN | apply IsS74.drew | apply IsS74.set_1 | apply IsS74.set_2) | exact HI0.out), by repeat (first | (with_reducible first | exact HB.out | apply qh | apply qe | apply qg | refine qj ?_ (IsS74.ge HI0.out)) | exact HB.out), by repeat (first | (with_reducible first | exact HK.out | apply qha | apply qia | apply qka | apply qja) | exact HK.out)⟩
def spec_DrawDistanceBetween.j0 : Nat → ByteArray → List ByteArray → Bool → List Int → Int → Int → Option (ByteArray × ByteArray)
 | 0, _, _, _, _, _, _ => none
 | k + 1, x5, x6, x19, x221000, x221001, x221002 => if x19 = true then ((spec_l1Below.f x221000 x221001 x221002 (x6.length : Int)).bind fun bt230 => (if 0 ≤ bt230.1 then (if bt230.1 < (x6.length : Int) then (some (x5, rdOf ByteArray.empty x6 bt230.1)) else (none)) else (none))) else ((spec_l3Any.f k x221000 x221001 x221002).bind fun bt234 => (some (x5, bt234.1)))
def spec_DrawDistanceBetween.f (k : Nat) (l0 : List Int) : Option (ByteArray × ByteArray) := (spec_l1New.f k l0).bind fun bt217 => ((spec_l3Any.f k bt217.1 bt217.2.1 bt217.2.2).bind fun bt221 => ((spec_NeighboursOf.f k bt221.1).bind fun t224 => (if (t224.length : Int) > 0 then ((spec_l1Once.f bt217.1 bt221.2.1 bt221.2.2 2).bind fun bt227 => (spec_DrawDistanceBetween.j0 k bt221.1 t224 bt227.1 bt217.1 bt227.2.1 bt227.2.2)) else (spec_DrawDistanceBetween.j0 k bt221.1 t224 false bt217.1 bt221.2.1 bt221.2.2))))
def spec_DrawDistanceBetween.T5 : Bool × List (List Nat × List Nat) := (true, [([], []), ([], []), ([], []), ([], []), ([3], [3]), ([2, 4], [2, 4]), ([1, 5], [1, 5]), ([6], [6]), ([0, 5, 0], [0]), ([7, 8, 0, 1, 2, 3, 4, 5, 6, 7, 8], [7])])
def spec_DrawDistanceBetween.B5 : List Nat := [0, 0, 0, 0, 8, 28, 62, 126, 61, 511]
theorem spec_DrawDistanceBetween.tab5 : rtab .any (opsOf Try.f19 5) = spec_DrawDistanceBetween.T5 := by kernel_rfl
theorem spec_DrawDistanceBetween.bits5 : waitsOk spec_DrawDistanceBetween.T5.2 spec_DrawDistanceBetween.B5 = true := by kernel_rfl
theorem spec_DrawDistanceBetween.calls (k : Nat) (A0 : Option Addr) (c0 : Nat) (l0 : List Int) (r1 : ByteArray) (r2 : ByteArray) (w : World) (hr0 : Kd.C (Kd.int .u8) w A0 l0.length l0) (hc0 : l0.length ≤ c0) (h : spec_DrawDistanceBetween.f k l0 = some (r1, r2)) :
  Calls Try.prog 19 #[.slice A0 l0.length c0] w fun e w' => e = .returned (.tuple #[.string r1, .string r2]) ∧ Below w.heap.size w w' := by
 have HR0 := qa hr0; have HC0 := qa hc0; clear hr0 hc0; have HB := qa (qwa w.heap.size w); have H := h; unfold spec_DrawDistanceBetween.f at H; clear h; obtain ⟨⟨t217, t218, t219⟩, A20, H⟩ := zb H; (try dsimp only at H); have A2 := qa A20; clear A20; obtain ⟨⟨t221, t222, t223⟩, A30, H⟩ := zb H; (try dsimp only at H); have A3 := qa A30; clear A30; obtain ⟨t224, A40, H⟩ := zb H; (try dsimp only at H); have A4 := qa A40; clear A40; have HC5 := qa H; clear H; go_enter Try.func19, Try.ntmps19
 go_upto_region 4 with (first | ((with_reducible refine qqa (f := 61) rfl ?_); refine goesL_ (some 8) rfl rfl Try.func61 (by kernel_rfl) rfl #[.slice A0 l0.length c0] rfl (by (try simp only [qs, qv, qw]); first | done | rfl | (simp only [qu, qt]; rfl)) ?_; (with_reducible refine (spec_l1New.calls k _ _ l0 t217 t218 t219 w _ ?side1 ?side2 ?side3 A2.out).mono ?_); (case side1 => repeat (first | (with_reducible first | exact HB.out | apply qh | apply qe | apply qg) | exact HB.out)); (case side2 => exact HR0.out); (case side3 => exact HC0.out); rintro e w6 ⟨g220, rfl, hi, hb, hb2⟩; refine ⟨_, rfl, ?_⟩; have n0_ := qa (hb); have n1_ := qa (hi); clear HB; have HB := n0_; have HI220 := n1_; clear n0_ n1_; (try clear hb); (try clear hb2); (try clear hk); (try clear hi)) | ((with_reducible refine qqa (f := 60) rfl ?_); refine goesL_ (some 10) rfl rfl Try.func60 (by kernel_rfl) rfl #[.pointer (some ⟨g220, 0, none⟩)] rfl (by (try simp only [qs, qv, qw]); first | done | rfl | (simp only [qu, qt]; rfl)) ?_; (with_reducible refine (spec_l3Any.calls k g220 t217 t218 t219 t221 t222 t223 w _ ?side1 ?side2 A3.out).mono ?_); (case side1 => repeat (first | (with_reducible first | exact HI220.out | apply IsS74.alloc | apply IsS74.drewN | apply IsS74.drew | apply IsS74.set_1 | apply IsS74.set_2) | exact HI220.out)); (case side2 => repeat (first | (with_reducible first | exact HB.out | apply qh | apply qe | apply qg | refine qj ?_ (IsS74.ge HI220.out)) | exact HB.out)); rintro e w7 ⟨rfl, hi, hb, hk⟩; refine ⟨_, rfl, ?_⟩; have n0_ := qa (hb); have n1_ := qa (hi); clear HB; clear HI220; have HB := n0_; have HI220 := n1_; clear n0_ n1_; (try clear hb); (try clear hb2); (try clear hk); (try clear hi)) | ((with_reducible refine qqa (f := 9) rfl ?_); refine goesL_ (some 12) rfl rfl Try.func9 (by kernel_rfl) rfl #[.string t221] rfl (by (try simp only [qs, qv, qw]); first | done | rfl | (simp only [qu, qt]; rfl)) ?_; (with_reducible refine (spec_NeighboursOf.calls k t221 t224 _ A4.out).mono ?_); rintro e w8 ⟨v225, rfl, ho0, hb⟩; refine ⟨_, rfl, ?_⟩; have n0_ := qa (qxa ho0 (qp (by repeat (first | (with_reducible first | exact HB.out | apply qh | apply qe | apply qg | refine qj ?_ (IsS74.ge HI220.out)) | exact HB.out)))); have n1_ := qa (IsS74.below (by repeat (first | (with_reducible first | exact HI220.out | apply IsS74.alloc | apply IsS74.drewN | apply IsS74.drew | apply IsS74.set_1 | apply IsS74.set_2) | exact HI220.out)) hb); have n2_ := qa (qba (by repeat (first | (with_reducible first | exact HB.out | apply qh | apply qe | apply qg | refine qj ?_ (IsS74.ge HI220.out)) | exact HB.out)) hb); clear HI220; clear HB; have HO226 := n0_; have HI220 := n1_; have HB := n2_; clear n0_ n1_ n2_; (try clear hb); (try clear hb2); (try clear hk); (try clear hi); (try clear ho0)))
 (try simp only [Act.put, qb, qc, qd])
 go_cut [19] (fun v19 wc => ∃ (kq : Nat) (x19_4 : Bool) (x221001_4 : Int) (x221002_4 : Int), v19 = .bool x19_4 ∧ Aside0 (spec_DrawDistanceBetween.j0 kq t221 t224 x19_4 t217 x221001_4 x221002_4 = some (r1, r2)) ∧ Aside0 (kq ≤ k) ∧ Aside0 (Kd.R Kd.string 9 wc w.heap.size (fun _ => True) v225 t224) ∧ Aside0 (IsS74 w wc g220 t217 x221001_4 x221002_4) ∧ Aside0 (Below w.heap.size w wc))
 case first =>
  have H := HC5.out; clear HC5
  by_cases c9 : (t224.length : Int) > 0
  ·rw [if_pos c9] at H
   have c9b0 : decide (0 < (t224.length : Int)) = true := qq c9; have c9b1 : decide (0 < t224.length) = true := qq (by omega); clear c9
   (first | rw [c9b0] | (simp only [i64_w, i32_w]; rw [c9b0]) | skip)
   obtain ⟨⟨t227, t228, t229⟩, A100, H⟩ := zb H; (try dsimp only at H); have A10 := qa A100; clear A100; have H' := qa H; clear H; obtain ⟨Ao11, co11, eo11⟩ := Kd.R_slice HO226.out; subst eo11
   go_wp2_with (first | (go_at_call 67; (with_reducible refine (spec_l1Once.calls g220 t217 t222 t223 2 t227 t228 t229 w _ ?side1 ?side2 A10.out).mono ?_); (case side1 => repeat (first | (with_reducible first | exact HI220.out | apply IsS74.alloc | apply IsS74.drewN | apply IsS74.drew | apply IsS74.set_1 | apply IsS74.set_2) | exact HI220.out)); (case side2 => repeat (first | (with_reducible first | exact HB.out | apply qh | apply qe | apply qg | refine qj ?_ (IsS74.ge HI220.out)) | exact HB.out)); rintro e w12 ⟨rfl, hi, hb, hk⟩; have n0_ := qa (qga (Kd.R_keep (IsS74.apart (show IsS74 w _ g220 t217 t222 t223 from by repeat (first | (with_reducible first | exact HI220.out | apply IsS74.alloc | apply IsS74.drewN | apply IsS74.drew | apply IsS74.set_1 | apply IsS74.set_2) | exact HI220.out)) (by (with_reducible repeat first | apply qx | apply qy | apply qz); exact HO226.out) (by decide)) hk (fun _ h => h.2)) (fun _ h => h.1)); have n1_ := qa (hb); have n2_ := qa (hi); clear HO226; clear HB; clear HI220; have HO226 := n0_; have HB := n1_; have HI220 := n2_; clear n0_ n1_ n2_; (try clear hb); (try clear hb2); (try clear hk); (try clear hi)))
   go_meet
   case rel => exact ⟨_, (t227), (t228), (t229), (by first | rfl | (simp; done) | (simp [*]; done)), H', ⟨by first | omega | exact qva _⟩, ⟨by (with_reducible repeat first | apply qx | apply qy | apply qz); exact HO226.out⟩, ⟨by repeat (first | (with_reducible first | exact HI220.out | apply IsS74.alloc | apply IsS74.drewN | apply IsS74.drew | apply IsS74.set_1 | apply IsS74.set_2) | exact HI220.out)⟩, ⟨by repeat (first | (with_reducible first | exact HB.out | apply qh | apply qe | apply qg | refine qj ?_ (IsS74.ge HI220.out)) | exact HB.out)⟩⟩
  ·rw [if_neg c9] at H
   have c9b0 : decide (0 < (t224.length : Int)) = false := qr c9; have c9b1 : decide (0 < t224.length) = false := qr (by omega); clear c9
   (first | rw [c9b0] | (simp only [i64_w, i32_w]; rw [c9b0]) | skip)
   have H' := qa H; clear H; obtain ⟨Ao13, co13, eo13⟩ := Kd.R_slice HO226.out; subst eo13; go_wp2; go_meet
   case rel => exact ⟨_, (false), (t222), (t223), (by first | rfl | (simp; done) | (simp [*]; done)), H', ⟨by first | omega | exact qva _⟩, ⟨by (with_reducible repeat first | apply qx | apply qy | apply qz); exact HO226.out⟩, ⟨by repeat (first | (with_reducible first | exact HI220.out | apply IsS74.alloc | apply IsS74.drewN | apply IsS74.drew | apply IsS74.set_1 | apply IsS74.set_2) | exact HI220.out)⟩, ⟨by repeat (first | (with_reducible first | exact HB.out | apply qh | apply qe | apply qg | refine qj ?_ (IsS74.ge HI220.out)) | exact HB.out)⟩⟩
 case rest =>
  clear HC5; (try clear c1); (try clear p2); (try clear c6); (try clear c9); (try clear c9b0); (try clear c9b1); obtain ⟨kq, x19_4, x221001_4, x221002_4, rfl, HA, HJ4, HO_6, HI220, HB⟩ := hcut
  cases kq with
  | zero => exact absurd HA.out (by simp [spec_DrawDistanceBetween.j0])
  | succ kj4 =>
   have H := HA.out; clear HA; simp only [spec_DrawDistanceBetween.j0] at H
   by_cases c14 : x19_4 = true
   ·subst c14
    rw [if_pos rfl] at H; have H1 := H; clear H; have H := H1; clear H1; obtain ⟨⟨t230, t231, t232⟩, A150, H⟩ := zb H; (try dsimp only at H); have A15 := qa A150; clear A150
    by_cases c16 : 0 ≤ t230
    ·rw [if_pos c16] at H
     have c16b0 : decide (0 ≤ t230) = true := qq c16; clear c16
     by_cases c17 : t230 < (t224.length : Int)
     ·rw [if_pos c17] at H
      have c17b0 : decide (t230 < (t224.length : Int)) = true := qq c17; clear c17; simp only [Option.some.injEq, Prod.mk.injEq] at H; obtain ⟨rfl, rfl⟩ := H
      try go_wp2
      have n0_ := qa (qz HO_6.out); have n1_ := qa (IsS74.drew HI220.out); have n2_ := qa (qg HB.out); clear HO_6 HI220 HB; have HO_6 := n0_; have HI220 := n1_; have HB := n2_; clear n0_ n1_ n2_; obtain ⟨Ao19, co19, eo19⟩ := Kd.R_slice HO_6.out
      (first | subst eo19 | (injection eo19 with f1_ f2_ f3_; have f4_ := f1_.symm; have f5_ := f3_.symm; clear f1_ f2_ f3_; subst f4_; subst f5_))
      have p233 : 0 ≤ (t230 : Int) := qm (by assumption); have q233 : t230 < (t224.length : Int) := qm (by assumption); obtain ⟨ad233, e233, hx233_0⟩ := Kd.at_string (qra HO_6.out).2.2 t230 p233 q233; cases e233; replace p233 := qaa p233; replace q233 := qaa q233; refine start_ (n := 10) (S := fun w' => w'.cell? (ad233.add (t230).toNat) = some (.string (rdOf ByteArray.empty t224 t230))) (ds := []) #[false, false, false, false, false, false, false, false, false, false] (by kernel_rfl) rfl rfl (hx233_0) (fun hHeld => ?_); refine with_tabW spec_DrawDistanceBetween.tab5 spec_DrawDistanceBetween.bits5 (fun HT_ HW_ => ?_); generalize wc.drew = w18 at HO_6 HI220 HB hx233_0 hHeld ⊢; refine pure_ (i := 0) (N := some 20) (v := ?_) (a' := ?_) #[true, false, false, false, false, false, false, false, false, false] rfl rfl (qla HT_.out (by kernel_rfl)) (fun _ _ _ h => h) (Or.inl ⟨by rfl, ?_⟩) ?_ ?_; rotate_left
      ·intro w'
       go_simp; with_reducible rfl
      rotate_left
      ·simp only [Act.put, qb, qc, qd, i64_w, i32_w]
       rfl
      refine pure_ (i := 1) (N := some 21) (v := ?_) (a' := ?_) #[true, true, false, false, false, false, false, false, false, false] rfl rfl (qla HT_.out (by kernel_rfl)) (fun _ _ _ h => h) (Or.inl ⟨by rfl, ?_⟩) ?_ ?_; rotate_left
      ·intro w'
       go_simp; with_reducible rfl
      rotate_left
      ·simp only [Act.put, qb, qc, qd, i64_w, i32_w]
       rfl
      refine pure_ (i := 2) (N := some 22) (v := ?_) (a' := ?_) #[true, true, true, false, false, false, false, false, false, false] rfl rfl (qla HT_.out (by kernel_rfl)) (fun _ _ _ h => h) (Or.inl ⟨by rfl, ?_⟩) ?_ ?_; rotate_left
      ·intro w'
       go_simp; with_reducible rfl
      rotate_left
      ·simp only [Act.put, qb, qc, qd, i64_w, i32_w]
       rfl
      refine pure_ (i := 3) (N := some 23) (v := ?_) (a' := ?_) #[true, true, true, true, false, false, false, false, false, false] rfl rfl (qla HT_.out (by kernel_rfl)) (fun _ _ _ h => h) (Or.inl ⟨by rfl, ?_⟩) ?_ ?_; rotate_left
      ·intro w'
       go_simp; with_reducible rfl
      rotate_left
      ·simp only [Act.put, qb, qc, qd, i64_w, i32_w]
       rfl
      refine pure_ (i := 4) (N := some 24) (v := ?_) (a' := ?_) #[true, true, true, true, true, false, false, false, false, false] rfl rfl (qla HT_.out (by kernel_rfl)) (fun _ _ _ h => h) (Or.inl ⟨by rfl, ?_⟩) ?_ ?_; rotate_left
      ·intro w'
       go_simp; with_reducible rfl
      rotate_left
      ·simp only [Act.put, qb, qc, qd, i64_w, i32_w]
       rfl
      refine one_ (i := 5) (N := some 25) #[true, true, true, true, true, true, false, false, false, false] rfl rfl (qna HT_.out (by kernel_rfl)) (by decide) (fun K hK => ?_); refine goes_ Try.func68 (by kernel_rfl) rfl #[.pointer (some ⟨g220, 0, none⟩), .int .i64 (t224.length : Int)] (by rfl) rfl rfl (by (try simp only [qs, qv, qw]); first | done | rfl | (simp only [qu, qt]; rfl)) ?_; with_reducible refine (spec_l1Below.calls g220 t217 x221001_4 x221002_4 (t224.length : Int) t230 t231 t232 w _ ?side1 ?side2 A15.out).mono ?_
      (case side1 => repeat (first | (with_reducible first | exact HI220.out | apply IsS74.alloc | apply IsS74.drewN | apply IsS74.drew | apply IsS74.set_1 | apply IsS74.set_2) | exact HI220.out))
      (case side2 => repeat (first | (with_reducible first | exact HB.out | apply qh | apply qe | apply qg | refine qj ?_ (IsS74.ge HI220.out)) | exact HB.out))
      rintro e w20 ⟨rfl, hi, hb, hk⟩; have HS0_ := keep_cell hk (hHeld) (by first | (rw [add_block]; exact Kd.own_blk (IsS74.own_ne HI220.out HO_6.out (by decide))) | (show (Addr.add _ _).block ≠ _; rw [add_block]; exact Kd.own_blk (IsS74.own_ne HI220.out HO_6.out (by decide))) | exact Kd.own_blk (IsS74.own_ne HI220.out HO_6.out (by decide))); refine ⟨_, rfl, ?_⟩; have n0_ := qa (qga (Kd.R_keep (IsS74.apart (show IsS74 w _ g220 t217 x221001_4 x221002_4 from by repeat (first | (with_reducible first | exact HI220.out | apply IsS74.alloc | apply IsS74.drewN | apply IsS74.drew | apply IsS74.set_1 | apply IsS74.set_2) | exact HI220.out)) (by (with_reducible repeat first | apply qx | apply qy | apply qz); exact HO_6.out) (by decide)) hk (fun _ h => h.2)) (fun _ h => h.1)); have n1_ := qa (hb); have n2_ := qa (hi); clear HO_6 HB HI220; have HO_6 := n0_; have HB := n1_; have HI220 := n2_; clear n0_ n1_ n2_; (try clear hb); (try clear hb2); (try clear hk); (try clear hi); refine hK.out _ _ (HS0_) (fun hHeld => ?_); clear hK K; refine norm_ (a' := ?_) ?_ ?_; rotate_left
      ·show Act.put _ (some 25) _ = _
       simp only [Act.put, qb, qc, qd, i64_w, i32_w]; rfl
      refine pure_ (i := 6) (N := some 26) (v := ?_) (a' := ?_) #[true, true, true, true, true, true, true, false, false, false] rfl rfl (qla HT_.out (by kernel_rfl)) (fun _ _ _ h => h) (Or.inl ⟨by rfl, ?_⟩) ?_ ?_; rotate_left
      ·intro w'
       go_simp; with_reducible rfl
      rotate_left
      ·simp only [Act.put, qb, qc, qd, i64_w, i32_w]
       rfl
      refine pure_ (i := 8) (N := some 2) (v := ?_) (a' := ?_) #[true, true, true, true, true, true, true, false, true, false] rfl rfl (qla HT_.out (by kernel_rfl)) (fun _ _ _ h => h) (Or.inl ⟨by rfl, ?_⟩) ?_ ?_; rotate_left
      ·intro w'
       go_simp; with_reducible rfl
      rotate_left
      ·simp only [Act.put, qb, qc, qd, i64_w, i32_w]
       rfl
      refine take_ (i := 7) (N := some 27) (v := ?_) (a' := ?_) #[true, true, true, true, true, true, true, true, true, false] rfl rfl (qma HT_.out HW_.out (by kernel_rfl)) (fun _ _ _ h => h) (Or.inl ⟨by rfl, ?_⟩) hHeld ?_ ?_; rotate_left
      ·intro w' s0
       go_simp; with_reducible rfl
      rotate_left
      ·simp only [Act.put, qb, qc, qd, i64_w, i32_w]
       rfl
      refine pure_ (i := 9) (N := some 3) (v := ?_) (a' := ?_) #[true, true, true, true, true, true, true, true, true, true] rfl rfl (qla HT_.out (by kernel_rfl)) (fun _ _ _ h => h) (Or.inl ⟨by rfl, ?_⟩) ?_ ?_; rotate_left
      ·intro w'
       go_simp; with_reducible rfl
      rotate_left
      ·simp only [Act.put, qb, qc, qd, i64_w, i32_w]
       rfl
      refine done_ (done_of HT_.out (by kernel_rfl)) ?_
      try go_wp2
      go_ret2; exact ⟨by first | rfl | (simp [*] <;> rfl), by repeat (first | (with_reducible first | exact HB.out | apply qh | apply qe | apply qg | refine qj ?_ (IsS74.ge HI220.out)) | exact HB.out)⟩
     ·rw [if_neg c17] at H
      exact absurd H (by simp)
    ·rw [if_neg c16] at H
     exact absurd H (by simp)
   ·replace c14 := Bool.eq_false_iff.mpr c14
    subst c14; rw [if_neg (show ¬ (false = true) by decide)] at H; have H1 := H; clear H; have H := H1; clear H1; obtain ⟨⟨t234, t235, t236⟩, A210, H⟩ := zb H; (try dsimp only at H); have A21 := qa A210; clear A210; simp only [Option.some.injEq, Prod.mk.injEq] at H; obtain ⟨rfl, rfl⟩ := H
    go_wp2_with (first | ((with_reducible refine qqa (f := 60) rfl ?_); refine goesL_ (some 30) rfl rfl Try.func60 (by kernel_rfl) rfl #[.pointer (some ⟨g220, 0, none⟩)] rfl (by (try simp only [qs, qv, qw]); first | done | rfl | (simp only [qu, qt]; rfl)) ?_; (with_reducible refine (spec_l3Any.calls kj4 g220 t217 x221001_4 x221002_4 t234 t235 t236 w _ ?side1 ?side2 A21.out).mono ?_); (case side1 => repeat (first | (with_reducible first | exact HI220.out | apply IsS74.alloc | apply IsS74.drewN | apply IsS74.drew | apply IsS74.set_1 | apply IsS74.set_2) | exact HI220.out)); (case side2 => repeat (first | (with_reducible first | exact HB.out | apply qh | apply qe | apply qg | refine qj ?_ (IsS74.ge HI220.out)) | exact HB.out)); rintro e w22 ⟨rfl, hi, hb, hk⟩; refine ⟨_, rfl, ?_⟩; have n0_ := qa (qga (Kd.R_keep (IsS74.apart (show IsS74 w _ g220 t217 x221001_4 x221002_4 from by repeat (first | (with_reducible first | exact HI220.out | apply IsS74.alloc | apply IsS74.drewN | apply IsS74.drew | apply IsS74.set_1 | apply IsS74.set_2) | exact HI220.out)) (by (with_reducible repeat first | apply qx | apply qy | apply qz); exact HO_6.out) (by decide)) hk (fun _ h => h.2)) (fun _ h => h.1)); have n1_ := qa (hb); have n2_ := qa (hi); clear HO_6; clear HB; clear HI220; have HO_6 := n0_; have HB := n1_; have HI220 := n2_; clear n0_ n1_ n2_; (try clear hb); (try clear hb2); (try clear hk); (try clear hi)))
    go_ret2; exact ⟨by first | rfl | (simp [*] <;> rfl), by repeat (first | (with_reducible first | exact HB.out | apply qh | apply qe | apply qg | refine qj ?_ (IsS74.ge HI220.out)) | exact HB.out)⟩
end Go.Proofs.Ytkjpbhncgjhfeaa.PFnForms
