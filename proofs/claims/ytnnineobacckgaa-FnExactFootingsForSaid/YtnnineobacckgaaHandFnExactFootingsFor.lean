/- FnExactFootingsFor: marks of rows in rows, and the law's walk. -/
import Derived.Test.YtnnineobacckgaaPFnExactFootingsForx
import Derived.Deep.WholeRow
import Derived.BigRegion
import Derived.IntWalk
import Derived.Lib.SliceRun
import Derived.Laws.EntriesVeiled
namespace Go.Proofs.Ytnnineobacckgaa.PFnExactFootingsFor
open Go.RowKit Go.Proofs.YtnnineobacckgaaW.PrintWords Go.Proofs.YtnnineobacckgaaW.PrintLast Go.Proofs.YtnnineobacckgaaW.PrintMore
attribute [local go_sem] max2_int min2_int max_two min_two max_three min_three max_four min_four
set_option linter.unusedVariables false
set_option linter.unusedSimpArgs false
/-- markFootingS: each footing is marked in turn. -/
def markAllF (k : Nat) : List S44 → Int → Option (Int × List S44)
  | [], n => some (n, [])
  | c :: cs, n => (laws_markFootS.f k c.f1 (wrap64 (n + 1))).bind fun p => (markAllF k cs (wrap64 (p.1 + 1))).bind fun q => some (q.1, ⟨n, p.2, p.1⟩ :: q.2)
theorem grown_of {w0 w w1 : World} {P : Nat → Prop} {row : Option Nat} (hb : Below w0.heap.size w0 w) (hb1 : Below w0.heap.size w0 w1) (hk : Kept w w1 P) (hp : ∀ k, P k → some k = row) : w.grownBy w1 row :=
  ⟨hb1.os.trans hb.os.symm, hb1.tape.trans hb.tape.symm, hb1.output.trans hb.output.symm, hk.1, fun i hi hn => hk.2 i hi (fun h => hn (hp i h))⟩
section
variable {W : World} {base g L cap : Nat} {P : Nat → Prop} {done cs : List S44} {c : S44}
theorem get_mid (z : S44) : (done ++ c :: cs).getD ((done.length : Int)).toNat z = c := by
  rw [Int.toNat_natCast, List.getD_eq_getElem?_getD, List.getElem?_append_right (Nat.le_refl _), Nat.sub_self]; rfl
theorem set_mid (x : S44) : (done ++ c :: cs).set ((done.length : Int)).toNat x = done ++ x :: cs := by
  rw [Int.toNat_natCast, List.set_append_right _ _ (Nat.le_refl _), Nat.sub_self, List.set_cons_zero]
theorem seg0 (h : Kd.S k44 44 W base P (.slice (some ⟨g, 0, none⟩) L cap) (done ++ c :: cs)) (hl : done.length < L) (v : Int) :
    W.cell? ⟨g, done.length * 3, none⟩ = some (.int .i64 c.f0) ∧ W.frozen? ⟨g, done.length * 3, none⟩ = false ∧ Kd.S k44 44 (W.setCell ⟨g, done.length * 3, none⟩ (.int .i64 v)) base P (.slice (some ⟨g, 0, none⟩) L cap) (done ++ ⟨v, c.f1, c.f2⟩ :: cs) := by
  obtain ⟨oki, cc, hcl, hM, hcc, hfr, hoki, hH⟩ := Kd.S_elem (ok := fun k => P k ∧ ¬ (fun _ : Nat => False) k) (Kd.S_mono h (fun k hk => ⟨hk, fun h => h⟩)) z44 (done.length : Int) (by omega) (by omega)
  rw [get_mid] at hM
  obtain ⟨v1, rfl, g1⟩ := k44_openM hM
  have h2 := (Kd.S_seg (okg := fun _ => False) (okp := oki) hH (by omega) (by omega) (seg := [.int .i64 v]) (j := 0) (show 0 + 1 ≤ 3 by omega) (x' := (⟨v, c.f1, c.f2⟩ : S44)) (k44_mkM W base oki (⟨v, c.f1, c.f2⟩ : S44) g1) (fun k hk => .inl hk) (fun k hk => hk.elim)).1
  rw [set_mid] at h2
  refine ⟨?_, by have := hfr 0; simpa [k44, Kd.iso, Kd.pair, Kd.int, Kd.scalar, Kd.slice] using this, ?_⟩
  · have := hcc 0 _ rfl
    simpa [k44, Kd.iso, Kd.pair, Kd.int, Kd.scalar, Kd.slice] using this
  · simpa [k44, Kd.iso, Kd.pair, Kd.int, Kd.scalar, Kd.slice, World.setCells] using h2
theorem seg2 (h : Kd.S k44 44 W base P (.slice (some ⟨g, 0, none⟩) L cap) (done ++ c :: cs)) (hl : done.length < L) (v : Int) :
    W.cell? ⟨g, done.length * 3 + 2, none⟩ = some (.int .i64 c.f2) ∧ W.frozen? ⟨g, done.length * 3 + 2, none⟩ = false ∧ Kd.S k44 44 (W.setCell ⟨g, done.length * 3 + 2, none⟩ (.int .i64 v)) base P (.slice (some ⟨g, 0, none⟩) L cap) (done ++ ⟨c.f0, c.f1, v⟩ :: cs) := by
  obtain ⟨oki, cc, hcl, hM, hcc, hfr, hoki, hH⟩ := Kd.S_elem (ok := fun k => P k ∧ ¬ (fun _ : Nat => False) k) (Kd.S_mono h (fun k hk => ⟨hk, fun h => h⟩)) z44 (done.length : Int) (by omega) (by omega)
  rw [get_mid] at hM
  obtain ⟨v1, rfl, g1⟩ := k44_openM hM
  have h2 := (Kd.S_seg (okg := fun _ => False) (okp := oki) hH (by omega) (by omega) (seg := [.int .i64 v]) (j := 2) (show 2 + 1 ≤ 3 by omega) (x' := (⟨c.f0, c.f1, v⟩ : S44)) (k44_mkM W base oki (⟨c.f0, c.f1, v⟩ : S44) g1) (fun k hk => .inl hk) (fun k hk => hk.elim)).1
  rw [set_mid] at h2
  refine ⟨?_, by have := hfr 2; simpa [k44, Kd.iso, Kd.pair, Kd.int, Kd.scalar, Kd.slice] using this, ?_⟩
  · have := hcc 2 _ rfl
    simpa [k44, Kd.iso, Kd.pair, Kd.int, Kd.scalar, Kd.slice] using this
  · simpa [k44, Kd.iso, Kd.pair, Kd.int, Kd.scalar, Kd.slice, World.setCells] using h2
end
set_option maxHeartbeats 8000000 in
set_option maxRecDepth 100000 in
theorem markAllF_calls (k : Nat) (P : Nat → Prop) (u : Value) (l0 : List S44) (a1 r1 : Int) (r2 : List S44) (w0 w : World) (hB : Below w0.heap.size w0 w) (ho0 : Kd.S k44 44 w w0.heap.size P u l0) (hlen : l0.length ≤ 1000000) (h : markAllF k l0 a1 = some (r1, r2)) :
    Calls Try.prog 10 #[u, .int .i64 a1] w fun e w' => e = .returned (.int .i64 r1) ∧ Kd.S k44 44 w' w0.heap.size P u r2 ∧ Below w0.heap.size w0 w' := by
  rcases l0 with _ | ⟨x0, xs⟩
  · obtain ⟨A, c, rfl⟩ := Kd.S_slice ho0
    have e := Option.some.inj h
    simp only [Prod.mk.injEq] at e
    obtain ⟨rfl, rfl⟩ := e
    have HS := Aside0.mk ho0
    have HB := Aside0.mk hB
    clear h ho0 hB
    go_enter Try.func10, Try.ntmps10
    go_wp2
    go_loopg [1, 5] 1 (fun kq v1 v5 w' => v1 = .int .i64 a1 ∧ v5 = .int .i64 0 ∧ Aside0 (w' = w))
    case atStart => exact ⟨rfl, rfl, ⟨rfl⟩⟩
    case round =>
      obtain ⟨rfl, rfl, HW⟩ := hrel
      go_wp2
      go_ret
      exact ⟨rfl, HW.out ▸ HS.out, HW.out ▸ HB.out⟩
  · obtain ⟨g, cap, rfl, hbg, _, _⟩ := Kd.S_form ho0 (by simp)
    generalize hl : (x0 :: xs).length = L at ho0 hlen
    generalize x0 :: xs = l0 at ho0 h hl
    have HS := Aside0.mk ho0
    have HB := Aside0.mk hB
    have HL := Aside0.mk hl
    have HH := Aside0.mk h
    clear h ho0 hB hl
    go_enter Try.func10, Try.ntmps10
    go_wp2
    go_loopg [1, 5] (L + 1) (fun kq v1 v5 w' => ∃ (n : Int) (i : Nat) (done todo rest : List S44), v1 = .int .i64 n ∧ v5 = .int .i64 (i : Int) ∧ Aside0 (kq + i = L + 1) ∧ Aside0 (i = done.length) ∧ Aside0 (done.length + todo.length = L) ∧ Aside0 (markAllF k todo n = some (r1, rest)) ∧ Aside0 (r2 = done ++ rest) ∧ Aside0 (Kd.S k44 44 w' w0.heap.size P (.slice (some ⟨g, 0, none⟩) L cap) (done ++ todo)) ∧ Aside0 (Below w0.heap.size w0 w'))
    case atStart => exact ⟨a1, 0, [], l0, r2, rfl, rfl, ⟨by omega⟩, ⟨rfl⟩, ⟨by have := HL.out; simp only [List.length_nil]; omega⟩, HH, ⟨rfl⟩, HS, HB⟩
    case round =>
      obtain ⟨n, i, done, todo, rest, rfl, rfl, HM, HI, HL2, HF, HR, HS', HB'⟩ := hrel
      rcases todo with _ | ⟨c, cs⟩
      · have hi : i = L := by have := HI.out; have := HL2.out; simp only [List.length_nil] at this; omega
        subst hi
        go_wp2
        go_ret
        have e := Option.some.inj HF.out
        simp only [Prod.mk.injEq] at e
        obtain ⟨rfl, rfl⟩ := e
        have hs := HS'.out
        exact ⟨rfl, by rw [HR.out]; exact hs, HB'.out⟩
      · have hi : i < L := by have := HI.out; have := HL2.out; simp only [List.length_cons] at this; omega
        have hdl : done.length < L := by have := HI.out; omega
        have hF := HF.out
        rw [markAllF] at hF
        obtain ⟨⟨p1, p2⟩, hp, hF⟩ := Option.bind_eq_some_iff.1 hF
        obtain ⟨⟨q1, q2⟩, hq, hF⟩ := Option.bind_eq_some_iff.1 hF
        have e := Option.some.inj hF
        simp only [Prod.mk.injEq] at e
        obtain ⟨e1, e2⟩ := e
        have HP := Aside0.mk hp
        have HQ : Aside0 (markAllF k cs (wrap64 (p1 + 1)) = some (r1, q2)) := ⟨by rw [← e1]; exact hq⟩
        have HE := Aside0.mk e2
        clear hp hq hF e1 e2 HF
        obtain ⟨z1, z2, z3⟩ := seg0 HS'.out hdl n
        rw [← HI.out] at z1 z2 z3
        have HS1 := Aside0.mk z3
        have HB1 : Aside0 (Below w0.heap.size w0 (wr.setCell ⟨g, i * 3, none⟩ (.int .i64 n))) := ⟨below_set HB'.out hbg⟩
        clear z3
        obtain ⟨g1, rfl⟩ : ∃ g, gk = g + 1 := ⟨gk - 1, by have := HM.out; omega⟩
        have p5 : 0 ≤ (i : Int) := by omega
        have q5 : (i : Int) < (L : Int) := by omega
        replace p5 := eq_true p5
        replace q5 := eq_true q5
        go_upto_region 6 with (fail)
        generalize wr.setCell ⟨g, i * 3, none⟩ (.int .i64 n) = w1 at HS1 HB1 ⊢
        clear z1 z2
        obtain ⟨oki, cc, hcl, hM, hcc, hoki, hback⟩ := Kd.S_borrow HS1.out z44 (done.length : Int) (by omega) (by omega)
        rw [get_mid] at hM
        obtain ⟨v0, rfl, g0⟩ := k44_openM hM
        obtain ⟨A2, c2, rfl⟩ := Kd.R_slice g0
        have hx : w1.cell? ⟨g, i * 3 + 1, none⟩ = some (.slice A2 c.f1.length c2) := by
          have h := hcc 1 _ rfl
          rw [add_at, ← HI.out] at h
          simpa [k44, Kd.iso, Kd.pair, Kd.int, Kd.scalar, Kd.slice] using h
        have HG := Aside0.mk g0
        have HBK := Aside0.mk @hback
        clear hcc hcl hM hoki hback g0
        go_upto_region 7 with (first | (go_at_call 30; refine (laws_markFootS.calls k (fun k_ => some k_ = (Value.slice A2 c.f1.length c2).ownBlock) (.slice A2 c.f1.length c2) c.f1 (wrap64 (n + 1)) p1 p2 w0 _ HB1.out (Kd.R_tight rfl HG.out) HP.out).mono ?_; rintro e w2 ⟨rfl, hr, hb, hk⟩; have HR1 := Aside0.mk hr; have HB2 := Aside0.mk hb; have HK1 := Aside0.mk hk; clear hr hb hk))
        have hs2 := HBK.out (w1 := w2) (row := (Value.slice A2 c.f1.length c2).ownBlock) (x' := (⟨n, p2, c.f2⟩ : S44)) (grown_of HB1.out HB2.out HK1.out (fun k_ hk => hk)) (fun k_ hk => HG.out.1 k_ hk) (k44_mkM w2 w0.heap.size oki (⟨n, p2, c.f2⟩ : S44) (Kd.R_reok rfl HR1.out HG.out.1))
        rw [set_mid] at hs2
        obtain ⟨z1, z2, z3⟩ := seg2 hs2 hdl p1
        rw [← HI.out] at z1 z2 z3
        have HS3 := Aside0.mk z3
        have HB3 : Aside0 (Below w0.heap.size w0 (w2.setCell ⟨g, i * 3 + 2, none⟩ (.int .i64 p1))) := ⟨below_set HB2.out hbg⟩
        clear z3 hs2 hx
        go_wp2
        go_roundg g1
        case measure => omega
        case rel => exact ⟨wrap64 (p1 + 1), i + 1, done ++ [⟨n, p2, p1⟩], cs, q2, (by first | rfl | (simp; done)), (by first | rfl | (simp; done)), ⟨by have := HM.out; omega⟩, ⟨by rw [List.length_append, HI.out]; rfl⟩, ⟨by have h := HL2.out; rw [List.length_cons] at h; rw [List.length_append, List.length_singleton]; omega⟩, HQ, ⟨by rw [HR.out, ← HE.out, List.append_assoc]; rfl⟩, ⟨by rw [List.append_assoc]; exact HS3.out⟩, HB3⟩
/-- The footings of the list that have the stresses. -/
def ffL (k : Nat) (l0 : List Int) : List S44 → Option (List S44)
  | [] => some []
  | c :: cs => (impl_StressesOf.f k c.f0 c.f1 c.f2).bind fun t => (slices_Equal_int_int.f k t l0).bind fun b => (ffL k l0 cs).bind fun q => some (if b = true then c :: q else q)
theorem zip_mid {α : Type} (done cs : List α) (c z : α) (n : Nat) : ((done ++ c :: cs).zipIdx).getD ((done.length : Int)).toNat (z, n) = (c, done.length) := by
  rw [Int.toNat_natCast, List.getD_eq_getElem?_getD, List.getElem?_zipIdx, List.getElem?_append_right (Nat.le_refl _), Nat.sub_self]
  simp
theorem R_far3 {α : Type} {d : Kd α} {e : TypeId} {w : World} {base : Nat} {ok : Nat → Prop} {v : Value} {xs : List α} {g : Nat} (h : d.R e w base ok v xs) (hok : ∀ k, ok k → k ≠ g) (u0 u1 u2 : Value) : d.R e (((w.setCell ⟨g, 0, none⟩ u0).setCell ⟨g, 1, none⟩ u1).setCell ⟨g, 2, none⟩ u2) base ok v xs :=
  Kd.R_far (p := ⟨g, 2, none⟩) (Kd.R_far (p := ⟨g, 1, none⟩) (Kd.R_far (p := ⟨g, 0, none⟩) h hok u0) hok u1) hok u2
theorem S_far3 {α : Type} {d : Kd α} {e : TypeId} {w : World} {base : Nat} {ok : Nat → Prop} {v : Value} {xs : List α} {g : Nat} (h : Kd.S d e w base ok v xs) (hok : ∀ k, ok k → k ≠ g) (u0 u1 u2 : Value) : Kd.S d e (((w.setCell ⟨g, 0, none⟩ u0).setCell ⟨g, 1, none⟩ u1).setCell ⟨g, 2, none⟩ u2) base ok v xs :=
  Kd.S_far (p := ⟨g, 2, none⟩) (Kd.S_far (p := ⟨g, 1, none⟩) (Kd.S_far (p := ⟨g, 0, none⟩) h hok u0) hok u1) hok u2
theorem size3 (w : World) (g : Nat) (u0 u1 u2 : Value) : (((w.setCell ⟨g, 0, none⟩ u0).setCell ⟨g, 1, none⟩ u1).setCell ⟨g, 2, none⟩ u2).heap.size = w.heap.size := by simp [World.setCell]
set_option maxHeartbeats 8000000 in
set_option maxRecDepth 100000 in
theorem ff_calls (k : Nat) (A0 : Option Addr) (c0 : Nat) (l0 : List Int) (G r : List S44) (w : World) (hr0 : Kd.C (Kd.int .i64) w A0 l0.length l0) (hc0 : l0.length ≤ c0) (hl0 : l0.length ≤ 140737488355328) (hG : impl_FootingsOf.f (l0.length : Int) = some G) (hlen : G.length ≤ 1000000) (h : ffL k l0 G = some r) :
    Calls Try.prog 14 #[.slice A0 l0.length c0] w fun e w' => ∃ v0_ : Value, e = .returned v0_ ∧ Kd.S k44 44 w' w.heap.size (fun _ => True) v0_ r ∧ Below w.heap.size w w' := by
  have HR0 := Aside0.mk hr0
  have HC0 := Aside0.mk hc0
  have HG := Aside0.mk hG
  have HF := Aside0.mk h
  have HLEN := Aside0.mk hlen
  clear hr0 hc0 hG h hlen
  have hu44 := Try.underlying44
  go_enter Try.func14, Try.ntmps14
  go_wp2_with (first | ((with_reducible refine gate_dst (N := 6) rfl ?_); refine Kd.S_lit k44 (w0 := w) w.heap.size 44 ?hg (N := 6) ?hd (xs := ([] : List S44)) (inner := []) (ok := fun _ => True) (okp := fun _ => True) ?hr ?hp (fun _ hk => hk) trivial (Below.refl _ _) (Nat.le_refl _) (by simp) ?_; (case hd => rfl); (case hg => rfl); (case hr => first | (go_simp; done) | (go_simp; rfl)); (case hp => exact (Reps.none _ _)); intro v1 w1 ho1 hb1 hg1 hnew1; have HO1 := Aside0.mk ho1; have HB1 := Aside0.mk hb1; clear ho1 hb1 hg1 hnew1) | ((with_reducible refine gate_callee (f := 8) rfl ?_); refine goesL_ (some 9) rfl rfl Try.func8 (by kernel_rfl) rfl #[.int .i64 (l0.length : Int)] rfl (by (try simp only [List.map_toArray, List.map_cons, List.map_nil]); first | done | rfl | (simp only [List.length_drop, List.length_take]; rfl)) ?_; (with_reducible refine (impl_FootingsOf.calls (l0.length : Int) G _ HG.out).mono ?_); rintro e w2 ⟨v2, rfl, hS2, hb2⟩; refine ⟨_, rfl, ?_⟩; obtain ⟨A2, c2, hv2⟩ := Kd.S_slice hS2; subst hv2; have HS2 := Aside0.mk hS2; have HB2 := Aside0.mk hb2; clear hS2 hb2))
  obtain ⟨f, hR2⟩ := HS2.out
  have HT0 : Aside0 ((Kd.tag f k44).R 44 w2 w.heap.size (fun k => w1.heap.size ≤ k ∧ k < w2.heap.size) (.slice A2 G.length c2) G.zipIdx) := ⟨Kd.R_lower (Kd.R_mono (Kd.R_bound hR2) (fun k hk => ⟨hk.2.1, hk.2.2.1⟩)) HB1.out.size⟩
  have HV0 : Aside0 (∀ k, v1.ownBlock = some k → k < w1.heap.size ∨ w2.heap.size ≤ k) := ⟨fun k hk => .inl ((Kd.S_R (Kd.S_bound HO1.out)).1 k hk).2.2.1⟩
  have HO0 : Aside0 (Kd.S k44 44 w2 w.heap.size (fun k => k < w1.heap.size ∨ f k < 0 ∨ w2.heap.size ≤ k) v1 []) := ⟨Kd.S_mono (Kd.S_below (Kd.S_bound HO1.out) HB2.out) (fun k hk => .inl hk.2.2.1)⟩
  have HB0 := Aside0.mk (below_then HB1.out HB1.out.size HB2.out)
  have HD : Aside0 (w.heap.size ≤ w1.heap.size ∧ w1.heap.size ≤ w2.heap.size) := ⟨HB1.out.size, HB2.out.size⟩
  clear hR2 HS2
  generalize w1.heap.size = D at HT0 HV0 HO0 HD
  have hB2 := Aside0.mk (Nat.le_refl w2.heap.size)
  generalize hBB : w2.heap.size = B at HT0 HV0 HO0 HD
  replace hB2 : Aside0 (B ≤ w2.heap.size) := ⟨Nat.le_of_eq hBB.symm⟩
  clear hBB
  go_loopg [3, 11] (G.length + 1) (fun kq v3 v11 w' => ∃ (i : Nat) (done todo outs q : List S44), v11 = .int .i64 (i : Int) ∧ Aside0 (kq + i = G.length + 1) ∧ Aside0 (i = done.length) ∧ Aside0 (G = done ++ todo) ∧ Aside0 (ffL k l0 todo = some q) ∧ Aside0 (r = outs ++ q) ∧ Aside0 (outs.length ≤ i) ∧ Aside0 ((Kd.tag f k44).R 44 w' w.heap.size (fun k => D ≤ k ∧ k < B) (.slice A2 G.length c2) G.zipIdx) ∧ Aside0 (Kd.S k44 44 w' w.heap.size (fun k => k < D ∨ f k < i ∨ B ≤ k) v3 outs) ∧ Aside0 (∀ k, v3.ownBlock = some k → k < D ∨ B ≤ k) ∧ Aside0 (B ≤ w'.heap.size) ∧ Aside0 (Below w.heap.size w w'))
  case atStart => exact ⟨0, [], G, [], r, (by first | rfl | (simp; done)), ⟨by omega⟩, ⟨rfl⟩, ⟨rfl⟩, HF, ⟨rfl⟩, ⟨Nat.le_refl _⟩, HT0, HO0, HV0, ⟨hB2.out⟩, HB0⟩
  case round =>
    obtain ⟨i, done, todo, outs, q, rfl, HM, HI, HGG, HFQ, HR, HOL, HT, HO, HV, HSZ, HB⟩ := hrel
    obtain ⟨g1, rfl⟩ : ∃ g, gk = g + 1 := ⟨gk - 1, by have := HM.out; have := HI.out; have h := congrArg List.length HGG.out; rw [List.length_append] at h; omega⟩
    rcases todo with _ | ⟨c, cs⟩
    · have hi : i = G.length := by have := HI.out; have h := congrArg List.length HGG.out; rw [List.length_append] at h; simp only [List.length_nil] at h; omega
      have hd : decide ((i : Int) < (G.length : Int)) = false := decide_eq_false (by omega)
      go_wp2
      go_ret
      have e := Option.some.inj HFQ.out
      subst e
      exact ⟨_, rfl, by rw [HR.out, List.append_nil]; exact Kd.S_mono HO.out (fun _ _ => trivial), HB.out⟩
    · have hi : i < G.length := by have := HI.out; have h := congrArg List.length HGG.out; rw [List.length_append] at h; simp only [List.length_cons] at h; omega
      have hF := HFQ.out
      rw [ffL] at hF
      obtain ⟨t, ht, hF⟩ := Option.bind_eq_some_iff.1 hF
      obtain ⟨b, hb, hF⟩ := Option.bind_eq_some_iff.1 hF
      obtain ⟨q1, hq, hF⟩ := Option.bind_eq_some_iff.1 hF
      have e := Option.some.inj hF
      have HT1 := Aside0.mk ht
      have HQ := Aside0.mk hb
      have HQ1 := Aside0.mk hq
      have HE := Aside0.mk e
      clear ht hb hq hF e HFQ
      have p5 : 0 ≤ (i : Int) := by omega
      have q5 : (i : Int) < (G.length : Int) := by omega
      have hc : rd_T44 G (i : Int) = c := by rw [rd_T44, HGG.out, HI.out]; exact get_mid z44
      have hc2 : (G.zipIdx).getD ((i : Int)).toNat (z44, 0) = (c, i) := by rw [HGG.out, HI.out]; exact zip_mid done cs c z44 0
      obtain ⟨ad, A_1, c_1, e, hx0, hx1, hx2, hl1, hi1⟩ := at_T44 (Kd.S_reads' ⟨f, HT.out⟩).2.2 (i : Int) p5 q5
      cases e
      obtain ⟨ce, hce, hMe, hcc⟩ := Kd.R_getA HT.out (z44, 0) (i : Int) p5 q5
      rw [hc2] at hMe
      rw [hc] at hx0 hx1 hx2 hl1 hi1
      obtain ⟨ua, rfl, ge⟩ := k44_openM hMe
      have hv1 := hcc 1 _ rfl
      rw [show (Kd.tag f k44).sz = 3 from rfl, add_field _ _ 1 (by omega)] at hv1
      obtain rfl := Option.some.inj (hv1.symm.trans hx1)
      have HL := Aside0.mk (show Kd.R k48 48 wr w.heap.size (fun k => (D ≤ k ∧ k < B) ∧ f k = i) _ c.f1 from Kd.R_mono ge (fun k hk => ⟨hk.1.1, hk.2⟩))
      have HCL := Aside0.mk hl1
      rw [Int.toNat_natCast] at hx0 hx1 hx2
      clear hv1 hcc hce hMe hi1 hl1 ge hc hc2
      have hwi : wrap64 ((i : Int) + 1) = ((i + 1 : Nat) : Int) := by have := HGG.out; have := HLEN.out; unfold wrap64; omega
      have p5b : decide (0 ≤ (i : Int)) = true := decide_eq_true p5
      have q5b : decide ((i : Int) < (G.length : Int)) = true := decide_eq_true q5
      replace p5 := eq_true p5
      replace q5 := eq_true q5
      cases b
      · go_wp2_with (first | ((with_reducible refine gate_dst (N := 5) rfl ?_); refine box_event ?hg (N := 5) ?hd (cs := #[.int .i64 0, .slice none 0 0, .int .i64 0]) (t := 44) ?hr ?_; (case hd => rfl); (case hg => rfl); (case hr => first | (go_simp; done) | (go_simp; rfl)); intro gb hg w14 hbox hb; have n0_ := Aside0.mk (Kd.R_mono (ok' := fun k => (D ≤ k ∧ k < B) ∧ k ≠ gb) (Kd.R_below HT.out hb) (fun k hk => ⟨hk, by have := HSZ.out; have := hk.2; omega⟩)); have n1_ := Aside0.mk (Kd.S_below (Kd.S_elderB HO.out gb (Nat.le_of_eq hg.symm)) hb); have n2_ := Aside0.mk (Kd.R_mono (ok' := fun k => ((D ≤ k ∧ k < B) ∧ f k = i) ∧ k ≠ gb) (Kd.R_below HL.out hb) (fun k hk => ⟨hk, by have := HSZ.out; have := hk.1.2; omega⟩)); have n4_ := Aside0.mk (below_step HB.out hb); have n5_ := Aside0.mk hbox; have n6_ : Aside0 (w.heap.size ≤ gb) := ⟨by rw [hg]; exact HB.out.size⟩; have n7_ : Aside0 (B ≤ w14.heap.size) := ⟨Nat.le_trans HSZ.out hb.size⟩; have n8_ : Aside0 (∀ k, u3.ownBlock = some k → k ≠ gb) := ⟨fun k hk => ((Kd.S_R (Kd.S_elderB HO.out gb (Nat.le_of_eq hg.symm))).1 k hk).2⟩; clear HT HO HL HB HSZ; have HT := n0_; have HO := n1_; have HL := n2_; have HB := n4_; have BK := n5_; have GE := n6_; have HSZ := n7_; have HVG := n8_; clear n0_ n1_ n2_ n4_ n5_ n6_ n7_ n8_ hb hbox hg; have hcz0 : w14.cell? ⟨gb, 0, none⟩ = some (.int .i64 0) := (blk_cell BK.out 0).trans rfl; have hcz1 : w14.cell? ⟨gb, 1, none⟩ = some (.slice none 0 0) := (blk_cell BK.out 1).trans rfl; have hcz2 : w14.cell? ⟨gb, 2, none⟩ = some (.int .i64 0) := (blk_cell BK.out 2).trans rfl; have hfz0 := blk_frozen BK.out 0; have hfz1 := blk_frozen BK.out 1; have hfz2 := blk_frozen BK.out 2) | ((with_reducible refine gate_callee (f := 35) rfl ?_); refine goesL_ (some 16) rfl rfl Try.func35 (by kernel_rfl) rfl #[.agg #[.int .i64 c.f0, .slice A_1 c.f1.length c_1, .int .i64 c.f2]] rfl (by (try simp only [List.map_toArray, List.map_cons, List.map_nil]); first | done | rfl | (simp only [List.length_drop, List.length_take]; rfl)) ?_; (with_reducible refine (impl_StressesOf.calls k c.f0 _ _ c.f1 c.f2 t _ ?side1 ?side2 HT1.out).mono ?_); (case side1 => exact (Kd.R_reads' (R_far3 HL.out (fun _ hk => hk.2) _ _ _)).2.2); (case side2 => exact HCL.out); rintro e w16 ⟨v240, rfl, ho0, hb⟩; refine ⟨_, rfl, ?_⟩; have n0_ := Aside0.mk (Kd.R_below (R_far3 HT.out (fun _ hk => hk.2) _ _ _) hb); have n1_ := Aside0.mk (Kd.S_below (S_far3 HO.out (fun _ hk => hk.2) _ _ _) hb); have n2_ := Aside0.mk (Kd.R_below (R_far3 HL.out (fun _ hk => hk.2) _ _ _) hb); have n4_ := Aside0.mk (below_step (below_set (below_set (below_set HB.out GE.out) GE.out) GE.out) hb); have n5_ := Aside0.mk (blk_below (g := gb) (o := .cells #[.int .i64 c.f0, .slice A_1 c.f1.length c_1, .int .i64 c.f2] 44 (0, 0)) (blk_put (cs := #[.int .i64 c.f0, .slice A_1 c.f1.length c_1, .int .i64 0]) (blk_put (cs := #[.int .i64 c.f0, .slice none 0 0, .int .i64 0]) (blk_put (cs := #[.int .i64 0, .slice none 0 0, .int .i64 0]) BK.out 0 _ rfl) 1 _ rfl) 2 _ rfl) hb); have n7_ : Aside0 (B ≤ w16.heap.size) := ⟨by have h1 := hb.size; rw [size3] at h1; exact Nat.le_trans HSZ.out h1⟩; have n9_ := Aside0.mk ho0; clear HT HO HL HB HSZ BK; have HT := n0_; have HO := n1_; have HL := n2_; have HB := n4_; have BK := n5_; have HSZ := n7_; have HO9 := n9_; clear n0_ n1_ n2_ n4_ n5_ n7_ n9_ hb ho0; obtain ⟨Ao, co, eo⟩ := Kd.R_slice HO9.out; subst eo) | ((with_reducible refine gate_callee (f := 34) rfl ?_); refine goesL_ (some 18) rfl rfl Try.func34 (by kernel_rfl) rfl #[.slice Ao t.length co, .slice A0 l0.length c0] rfl (by (try simp only [List.map_toArray, List.map_cons, List.map_nil]); first | done | rfl | (simp only [List.length_drop, List.length_take]; rfl)) ?_; (with_reducible refine (slices_Equal_int_int.calls k _ _ t _ _ l0 false _ ?side1 ?side2 ?side3 ?side4 HQ.out).mono ?_); (case side1 => exact (Kd.R_reads' HO9.out).2.2); (case side2 => exact (Kd.R_reads' HO9.out).2.1); (case side3 => exact (Kd.C_below HR0.out HB.out)); (case side4 => exact HC0.out); rintro e w' ⟨rfl, ⟨nd, rfl⟩⟩; refine ⟨_, rfl, ?_⟩; have hcy0 : w16.cell? ⟨gb, 0, none⟩ = some (.int .i64 c.f0) := (blk_cell BK.out 0).trans rfl; have hcy1 : w16.cell? ⟨gb, 1, none⟩ = some (.slice A_1 c.f1.length c_1) := (blk_cell BK.out 1).trans rfl; have hcy2 : w16.cell? ⟨gb, 2, none⟩ = some (.int .i64 c.f2) := (blk_cell BK.out 2).trans rfl))
        go_roundg g1
        case measure => omega
        case rel => exact ⟨i + 1, done ++ [c], cs, outs, q1, (by first | rfl | (simp; done) | exact congrArg (Value.int .i64) hwi), ⟨by have := HM.out; omega⟩, ⟨by rw [List.length_append, HI.out]; rfl⟩, ⟨by rw [HGG.out, List.append_assoc]; rfl⟩, HQ1, ⟨by rw [HR.out, ← HE.out]; rfl⟩, ⟨Nat.le_succ_of_le HOL.out⟩, ⟨Kd.R_mono (Kd.R_drewN HT.out nd) (fun k hk => hk.1)⟩, ⟨Kd.S_mono (Kd.S_drewN HO.out nd) (fun k hk => by have := hk.1; omega)⟩, HV, HSZ, ⟨pw_below_drewN HB.out nd⟩⟩
      · go_wp2_with (first | ((with_reducible refine gate_dst (N := 5) rfl ?_); refine box_event ?hg (N := 5) ?hd (cs := #[.int .i64 0, .slice none 0 0, .int .i64 0]) (t := 44) ?hr ?_; (case hd => rfl); (case hg => rfl); (case hr => first | (go_simp; done) | (go_simp; rfl)); intro gb hg w14 hbox hb; have n0_ := Aside0.mk (Kd.R_mono (ok' := fun k => (D ≤ k ∧ k < B) ∧ k ≠ gb) (Kd.R_below HT.out hb) (fun k hk => ⟨hk, by have := HSZ.out; have := hk.2; omega⟩)); have n1_ := Aside0.mk (Kd.S_below (Kd.S_elderB HO.out gb (Nat.le_of_eq hg.symm)) hb); have n2_ := Aside0.mk (Kd.R_mono (ok' := fun k => ((D ≤ k ∧ k < B) ∧ f k = i) ∧ k ≠ gb) (Kd.R_below HL.out hb) (fun k hk => ⟨hk, by have := HSZ.out; have := hk.1.2; omega⟩)); have n4_ := Aside0.mk (below_step HB.out hb); have n5_ := Aside0.mk hbox; have n6_ : Aside0 (w.heap.size ≤ gb) := ⟨by rw [hg]; exact HB.out.size⟩; have n7_ : Aside0 (B ≤ w14.heap.size) := ⟨Nat.le_trans HSZ.out hb.size⟩; have n8_ : Aside0 (∀ k, u3.ownBlock = some k → k ≠ gb) := ⟨fun k hk => ((Kd.S_R (Kd.S_elderB HO.out gb (Nat.le_of_eq hg.symm))).1 k hk).2⟩; clear HT HO HL HB HSZ; have HT := n0_; have HO := n1_; have HL := n2_; have HB := n4_; have BK := n5_; have GE := n6_; have HSZ := n7_; have HVG := n8_; clear n0_ n1_ n2_ n4_ n5_ n6_ n7_ n8_ hb hbox hg; have hcz0 : w14.cell? ⟨gb, 0, none⟩ = some (.int .i64 0) := (blk_cell BK.out 0).trans rfl; have hcz1 : w14.cell? ⟨gb, 1, none⟩ = some (.slice none 0 0) := (blk_cell BK.out 1).trans rfl; have hcz2 : w14.cell? ⟨gb, 2, none⟩ = some (.int .i64 0) := (blk_cell BK.out 2).trans rfl; have hfz0 := blk_frozen BK.out 0; have hfz1 := blk_frozen BK.out 1; have hfz2 := blk_frozen BK.out 2) | ((with_reducible refine gate_callee (f := 35) rfl ?_); refine goesL_ (some 16) rfl rfl Try.func35 (by kernel_rfl) rfl #[.agg #[.int .i64 c.f0, .slice A_1 c.f1.length c_1, .int .i64 c.f2]] rfl (by (try simp only [List.map_toArray, List.map_cons, List.map_nil]); first | done | rfl | (simp only [List.length_drop, List.length_take]; rfl)) ?_; (with_reducible refine (impl_StressesOf.calls k c.f0 _ _ c.f1 c.f2 t _ ?side1 ?side2 HT1.out).mono ?_); (case side1 => exact (Kd.R_reads' (R_far3 HL.out (fun _ hk => hk.2) _ _ _)).2.2); (case side2 => exact HCL.out); rintro e w16 ⟨v240, rfl, ho0, hb⟩; refine ⟨_, rfl, ?_⟩; have n0_ := Aside0.mk (Kd.R_below (R_far3 HT.out (fun _ hk => hk.2) _ _ _) hb); have n1_ := Aside0.mk (Kd.S_below (S_far3 HO.out (fun _ hk => hk.2) _ _ _) hb); have n2_ := Aside0.mk (Kd.R_below (R_far3 HL.out (fun _ hk => hk.2) _ _ _) hb); have n4_ := Aside0.mk (below_step (below_set (below_set (below_set HB.out GE.out) GE.out) GE.out) hb); have n5_ := Aside0.mk (blk_below (g := gb) (o := .cells #[.int .i64 c.f0, .slice A_1 c.f1.length c_1, .int .i64 c.f2] 44 (0, 0)) (blk_put (cs := #[.int .i64 c.f0, .slice A_1 c.f1.length c_1, .int .i64 0]) (blk_put (cs := #[.int .i64 c.f0, .slice none 0 0, .int .i64 0]) (blk_put (cs := #[.int .i64 0, .slice none 0 0, .int .i64 0]) BK.out 0 _ rfl) 1 _ rfl) 2 _ rfl) hb); have n7_ : Aside0 (B ≤ w16.heap.size) := ⟨by have h1 := hb.size; rw [size3] at h1; exact Nat.le_trans HSZ.out h1⟩; have n9_ := Aside0.mk ho0; clear HT HO HL HB HSZ BK; have HT := n0_; have HO := n1_; have HL := n2_; have HB := n4_; have BK := n5_; have HSZ := n7_; have HO9 := n9_; clear n0_ n1_ n2_ n4_ n5_ n7_ n9_ hb ho0; obtain ⟨Ao, co, eo⟩ := Kd.R_slice HO9.out; subst eo) | ((with_reducible refine gate_callee (f := 34) rfl ?_); refine goesL_ (some 18) rfl rfl Try.func34 (by kernel_rfl) rfl #[.slice Ao t.length co, .slice A0 l0.length c0] rfl (by (try simp only [List.map_toArray, List.map_cons, List.map_nil]); first | done | rfl | (simp only [List.length_drop, List.length_take]; rfl)) ?_; (with_reducible refine (slices_Equal_int_int.calls k _ _ t _ _ l0 true _ ?side1 ?side2 ?side3 ?side4 HQ.out).mono ?_); (case side1 => exact (Kd.R_reads' HO9.out).2.2); (case side2 => exact (Kd.R_reads' HO9.out).2.1); (case side3 => exact (Kd.C_below HR0.out HB.out)); (case side4 => exact HC0.out); rintro e w' ⟨rfl, ⟨nd, rfl⟩⟩; refine ⟨_, rfl, ?_⟩; have hcy0 : w16.cell? ⟨gb, 0, none⟩ = some (.int .i64 c.f0) := (blk_cell BK.out 0).trans rfl; have hcy1 : w16.cell? ⟨gb, 1, none⟩ = some (.slice A_1 c.f1.length c_1) := (blk_cell BK.out 1).trans rfl; have hcy2 : w16.cell? ⟨gb, 2, none⟩ = some (.int .i64 c.f2) := (blk_cell BK.out 2).trans rfl) | ((with_reducible refine gate_builtin (b := .append) (xs := #[.tmp 19, .tmp 21]) rfl ?_); at_builtin; refine Kd.S_append k44 (w0 := w) w.heap.size rfl (.tmp 19) (.tmp 21) 22 44 (.agg #[(.int .i64 0), (.slice none 0 0), (.int .i64 0)]) 40 rfl Try.underlying22 info44 rfl (by decide) (by omega) u3 outs c [.int .i64 c.f0, .slice A_1 c.f1.length c_1, .int .i64 c.f2] (fun k => k < D ∨ f k < i + 1 ∨ B ≤ k) (fun k => (D ≤ k ∧ k < B) ∧ f k = i) rfl rfl ?aP ?aK ?aF ?aO ?aB ?aS ?aL ?_; (case aP => exact k44_mkM _ _ _ c (Kd.R_mono (Kd.R_drewN HL.out nd) (fun k hk => hk.1))); (case aK => exact fun k hk => ⟨.inr (.inl (by have := hk.2; omega)), fun h => by have h2 := HV.out k h.symm; have := hk.1; omega⟩); (case aF => exact fun k hk => .inr (.inr (Nat.le_trans HSZ.out hk))); (case aO => exact Kd.S_mono (Kd.S_drewN HO.out nd) (fun k hk => ⟨by have := hk.1; omega, fun h => by have := hk.1; omega⟩)); (case aB => exact pw_below_drewN HB.out nd); (case aS => exact HB.out.size); (case aL => have := HOL.out; have := HI.out; have := HLEN.out; omega); intro v244 w19 ho hb hg hat; have n0_ := Aside0.mk (Kd.R_mono (Kd.R_grown (Kd.R_drewN HT.out nd) hg (fun k hk h => by have h2 := HV.out k h.symm; have := hk.1; omega)) (fun k hk => hk.1)); have n1_ := Aside0.mk ho; have n4_ := Aside0.mk hb; have n7_ : Aside0 (B ≤ w19.heap.size) := ⟨Nat.le_trans HSZ.out hg.size⟩; have n8_ : Aside0 (∀ k, v244.ownBlock = some k → k < D ∨ B ≤ k) := ⟨fun k hk => hat.elim (fun h => HV.out k (h ▸ hk)) (fun ⟨b, h1, h2⟩ => .inr (by rw [h1] at hk; have := Option.some.inj hk; have := HSZ.out; have h3 : w16.heap.size ≤ b := h2; omega))⟩; clear HT HO HB HSZ HL BK HV HVG; have HT := n0_; have HO := n1_; have HB := n4_; have HSZ := n7_; have HV := n8_; clear n0_ n1_ n4_ n7_ n8_ ho hb hg hat))
        go_roundg g1
        case measure => omega
        case rel => exact ⟨i + 1, done ++ [c], cs, outs ++ [c], q1, (by first | rfl | (simp; done) | exact congrArg (Value.int .i64) hwi), ⟨by have := HM.out; omega⟩, ⟨by rw [List.length_append, HI.out]; rfl⟩, ⟨by rw [HGG.out, List.append_assoc]; rfl⟩, HQ1, ⟨by rw [HR.out, ← HE.out, List.append_assoc]; rfl⟩, ⟨by rw [List.length_append]; have := HOL.out; simp only [List.length_singleton]; omega⟩, HT, HO, HV, HSZ, HB⟩
/-- What the plain law owes. -/
def laws_FnExactFootingsFor.Pure : Prop := ∀ l0 : List Int, (∀ y ∈ l0, (Lit.int .i64 y).wf = true) → l0.length ≤ 1048576 → ∃ (k : Nat) (G R R' : List S44) (m m0 : Int) (x' : List Int), laws_toIntS.f k l0 = some l0 ∧ spec_FootingsFor.f k l0 = some R ∧ impl_FootingsOf.f (l0.length : Int) = some G ∧ ffL k l0 G = some R ∧ laws_eqFootingS.f k R R = some true ∧ laws_eqIntS.f k l0 l0 = some true ∧ laws_markIntS.f k l0 1 = some (m0, x') ∧ markAllF k R 1 = some (m, R') ∧ laws_heldFootingS.f k R' 1 = some m ∧ 0 ≤ m ∧ 0 ≤ m0 ∧ G.length ≤ 1000000 ∧ R.length ≤ 1000000
set_option maxHeartbeats 8000000 in
set_option maxRecDepth 100000 in
theorem laws_FnExactFootingsFor.walk (P : laws_FnExactFootingsFor.Pure) (A0 : Option Addr) (c0 : Nat) (l0 : List Int) (w : World) (w0 : l0.length ≤ 9223372036854775807) (q0 : ∀ y ∈ l0, (Lit.int .i64 y).wf = true) (hr0 : Kd.C (Kd.int .i64) w A0 l0.length l0) (hc0 : l0.length ≤ c0) :
    Calls Try.prog 4 #[.slice A0 l0.length c0] w fun e w' => e = .returned (.bool true) ∧ Below w.heap.size w w' := by
  by_cases hl : l0.length ≤ 1048576
  · obtain ⟨k, G, R, R', m, m0, x', h1, h2, h3, h4, h5, h6, h7, h8, h9, hm, hm0, hGl, hRl⟩ := P l0 q0 hl
    have HTI := Aside0.mk h1
    have HSF := Aside0.mk h2
    have HG := Aside0.mk h3
    have HFF := Aside0.mk h4
    have HEQ := Aside0.mk h5
    have HEI := Aside0.mk h6
    have HMI := Aside0.mk h7
    have HMA := Aside0.mk h8
    have HHE := Aside0.mk h9
    have HGL := Aside0.mk hGl
    have HRL := Aside0.mk hRl
    have HR0 := Aside0.mk hr0
    have HC0 := Aside0.mk hc0
    have HL := Aside0.mk (show l0.length ≤ 140737488355328 by omega)
    have hlen : decide ((l0.length : Int) > 1048576) = false := decide_eq_false (by omega)
    have hmn : decide (m < 0) = false := decide_eq_false (by omega)
    have hm0n : decide (m0 < 0) = false := decide_eq_false (by omega)
    have hmm : (m != m) = false := by simp
    clear h1 h2 h3 h4 h5 h6 h7 h8 h9 hGl hRl hr0 hc0 P hl q0 w0 hm hm0
    go_enter Try.func4, Try.ntmps4
    go_upto_region 4 with (first
      | (go_at_call 13; refine (laws_toIntS.calls k A0 c0 l0 l0 _ HR0.out HC0.out HTI.out).mono ?_; rintro e w1 ⟨v1, rfl, hr1, hb1⟩; obtain ⟨A1, c1, hv1⟩ := Kd.R_slice hr1; subst hv1; have HR1 := Aside0.mk hr1; have HB1 := Aside0.mk hb1; clear hr1 hb1)
      | (go_at_call 12; refine (spec_FootingsFor.calls k A1 c1 l0 R _ (Kd.R_reads' HR1.out).2.2 (Kd.R_reads' HR1.out).2.1 HSF.out).mono ?_; rintro e w2 ⟨v2, rfl, hN, hb2⟩; obtain ⟨A2, c2, hv2⟩ := Kd.N_slice hN; subst hv2; have HN := Aside0.mk hN; have HB2 := Aside0.mk hb2; clear hN hb2))
    have HB02 := Aside0.mk (below_then HB1.out HB1.out.size HB2.out)
    go_upto_region 5 with (first
      | (go_at_call 13; refine (laws_toIntS.calls k A0 c0 l0 l0 _ (Kd.C_below HR0.out HB02.out) HC0.out HTI.out).mono ?_; rintro e w3 ⟨v3, rfl, hr3, hb3⟩; obtain ⟨A3, c3, hv3⟩ := Kd.R_slice hr3; subst hv3; have HX := Aside0.mk hr3; have HB3 := Aside0.mk hb3; clear hr3 hb3))
    go_upto_region 6 with (first
      | (go_at_call 14; refine (ff_calls k A3 c3 l0 G R _ (Kd.R_reads' HX.out).2.2 (Kd.R_reads' HX.out).2.1 HL.out HG.out HGL.out HFF.out).mono ?_; rintro e w4 ⟨v4, rfl, hS, hb4⟩; obtain ⟨A4, c4, hv4⟩ := Kd.S_slice hS; subst hv4; have HS := Aside0.mk hS; have HB4 := Aside0.mk hb4; clear hS hb4))
    have HB24 := Aside0.mk (below_then HB3.out HB3.out.size HB4.out)
    go_upto_region 8 with (first
      | (go_at_call 9; refine (laws_eqFootingS.calls k A4 c4 R A2 c2 R true _ (Kd.S_reads' HS.out).2.2 (Kd.S_reads' HS.out).2.1 (Kd.N_reads' (Kd.N_below HN.out HB24.out)).2.2 (Kd.N_reads' (Kd.N_below HN.out HB24.out)).2.1 HEQ.out).mono ?_; rintro e w5 ⟨rfl, hb5⟩; have HB5 := Aside0.mk hb5; clear hb5))
    have HB25 := Aside0.mk (below_then HB24.out HB24.out.size HB5.out)
    have HB05 := Aside0.mk (below_then HB02.out HB02.out.size HB25.out)
    have HB45 := Aside0.mk (below_then HB4.out HB4.out.size HB5.out)
    go_upto_region 10 with (first
      | (go_at_call 13; refine (laws_toIntS.calls k A0 c0 l0 l0 _ (Kd.C_below HR0.out HB05.out) HC0.out HTI.out).mono ?_; rintro e w6 ⟨v6, rfl, hr6, hb6⟩; obtain ⟨A6, c6, hv6⟩ := Kd.R_slice hr6; subst hv6; have HR6 := Aside0.mk hr6; have HB6 := Aside0.mk hb6; have HX6 := Aside0.mk (Kd.R_below HX.out (below_then HB45.out HB45.out.size hb6)); clear hr6 hb6)
      | (go_at_call 15; refine (laws_eqIntS.calls k A3 c3 l0 A6 c6 l0 true _ (Kd.R_reads' HX6.out).2.2 (Kd.R_reads' HX6.out).2.1 (Kd.R_reads' HR6.out).2.2 (Kd.R_reads' HR6.out).2.1 HEI.out).mono ?_; rintro e w7 ⟨rfl, ⟨nd7, rfl⟩⟩))
    have HB57 := Aside0.mk (pw_below_drewN HB6.out nd7)
    have HX7 := Aside0.mk (Kd.R_drewN HX6.out nd7)
    clear HX6 HR6 HB6
    generalize w6.drewN nd7 = w7 at HB57 HX7 ⊢
    have HB27 := Aside0.mk (below_then HB25.out HB25.out.size HB57.out)
    have HS7 := Aside0.mk (Kd.S_below HS.out (below_then HB5.out HB5.out.size HB57.out))
    go_upto_region 12 with (first
      | (go_at_call 16; refine (laws_markIntS.calls k (fun k_ => some k_ = (Value.slice A3 l0.length c3).ownBlock) (.slice A3 l0.length c3) l0 1 m0 x' w2 _ HB27.out (Kd.R_tight rfl HX7.out) HMI.out).mono ?_; rintro e w8 ⟨rfl, hr, hb, hk⟩; have HB28 := Aside0.mk hb; have HK := Aside0.mk hk; clear hr hb hk))
    have HS8 : Aside0 (Kd.S k44 44 w8 w3.heap.size (fun k => True ∧ w3.heap.size ≤ k ∧ k < w7.heap.size ∧ ∃ q, q ∈ 44 :: k44.E ∧ ∃ cells, w7.heap[k]? = some (.cells cells q (0, 0))) (.slice A4 R.length c4) R) := ⟨Kd.S_step (Kd.S_bound HS7.out) (fun k ho hlt => HK.out.2 k hlt (fun he => by have h1 := Kd.R_lt HX.out k he.symm; have h2 := ho.2.1; omega))⟩
    replace HS8 := Aside0.mk (Kd.S_mono (ok' := fun _ => True) HS8.out (fun _ _ => trivial))
    go_upto_region 14 with (first
      | (go_at_call 9; refine (laws_eqFootingS.calls k A4 c4 R A2 c2 R true _ (Kd.S_reads' HS8.out).2.2 (Kd.S_reads' HS8.out).2.1 (Kd.N_reads' (Kd.N_below HN.out HB28.out)).2.2 (Kd.N_reads' (Kd.N_below HN.out HB28.out)).2.1 HEQ.out).mono ?_; rintro e w9 ⟨rfl, hb9⟩; have HB9 := Aside0.mk hb9; clear hb9))
    have HB29 := Aside0.mk (below_then HB28.out HB28.out.size HB9.out)
    obtain ⟨f9, hf9⟩ := Kd.S_below HS8.out HB9.out
    have HS9 : Aside0 (Kd.S k44 44 w9 w2.heap.size (fun _ => True) (.slice A4 R.length c4) R) := ⟨⟨f9, Kd.R_lower hf9 HB3.out.size⟩⟩
    clear hf9
    go_upto_region 16 with (first
      | (go_at_call 10; refine (markAllF_calls k (fun _ => True) (.slice A4 R.length c4) R 1 m R' w2 _ HB29.out HS9.out HRL.out HMA.out).mono ?_; rintro e w10 ⟨rfl, hS10, hb10⟩; have HS10 := Aside0.mk hS10; have HB210 := Aside0.mk hb10; clear hS10 hb10))
    have hl4 : R.length = R'.length := (Kd.S_reads' HS10.out).1
    have HL4 := Aside0.mk hl4
    clear hl4
    go_upto_region 18 with (first
      | (go_at_call 11; refine (calls_of_args (args' := #[.slice A4 R'.length c4, .int .i64 1]) (by rw [HL4.out]) (laws_heldFootingS.calls k A4 c4 R' 1 m _ (Kd.S_reads' HS10.out).2.2 (by have := (Kd.S_reads' HS10.out).2.1; rw [← HL4.out]; exact this) HHE.out)).mono ?_; rintro e w11 ⟨rfl, ⟨nd11, rfl⟩⟩))
    have HBd := Aside0.mk (pw_below_drewN (Below.refl w10.heap.size w10) nd11)
    generalize w10.drewN nd11 = w11 at HBd ⊢
    have HB211 := Aside0.mk (below_then HB210.out HB210.out.size HBd.out)
    have HB011 := Aside0.mk (below_then HB02.out HB02.out.size HB211.out)
    go_upto_region 23 with (first
      | (go_at_call 13; refine (laws_toIntS.calls k A0 c0 l0 l0 _ (Kd.C_below HR0.out HB011.out) HC0.out HTI.out).mono ?_; rintro e w12 ⟨v12, rfl, hr12, hb12⟩; obtain ⟨A12, c12, hv12⟩ := Kd.R_slice hr12; subst hv12; have HR12 := Aside0.mk hr12; have HB12 := Aside0.mk hb12; clear hr12 hb12)
      | (go_at_call 14; refine (ff_calls k A12 c12 l0 G R _ (Kd.R_reads' HR12.out).2.2 (Kd.R_reads' HR12.out).2.1 HL.out HG.out HGL.out HFF.out).mono ?_; rintro e w13 ⟨v13, rfl, hS13, hb13⟩; obtain ⟨A13, c13, hv13⟩ := Kd.S_slice hS13; subst hv13; have HS13 := Aside0.mk hS13; have HB13 := Aside0.mk hb13; clear hS13 hb13))
    have HB1113 := Aside0.mk (below_then HB12.out HB12.out.size HB13.out)
    have HB213 := Aside0.mk (below_then HB211.out HB211.out.size HB1113.out)
    have HB1013 := Aside0.mk (below_then HBd.out HBd.out.size HB1113.out)
    go_upto_region 25 with (first
      | (go_at_call 9; refine (laws_eqFootingS.calls k A13 c13 R A2 c2 R true _ (Kd.S_reads' HS13.out).2.2 (Kd.S_reads' HS13.out).2.1 (Kd.N_reads' (Kd.N_below HN.out HB213.out)).2.2 (Kd.N_reads' (Kd.N_below HN.out HB213.out)).2.1 HEQ.out).mono ?_; rintro e w14 ⟨rfl, hb14⟩; have HB14 := Aside0.mk hb14; clear hb14))
    have HB1014 := Aside0.mk (below_then HB1013.out HB1013.out.size HB14.out)
    have HB214 := Aside0.mk (below_then HB213.out HB213.out.size HB14.out)
    have HB014 := Aside0.mk (below_then HB02.out HB02.out.size HB214.out)
    go_upto_region 27 with (first
      | (go_at_call 11; refine (calls_of_args (args' := #[.slice A4 R'.length c4, .int .i64 1]) (by rw [HL4.out]) (laws_heldFootingS.calls k A4 c4 R' 1 m _ (Kd.S_reads' (Kd.S_below HS10.out HB1014.out)).2.2 (by have := (Kd.S_reads' HS10.out).2.1; rw [← HL4.out]; exact this) HHE.out)).mono ?_; rintro e w15 ⟨rfl, ⟨nd15, rfl⟩⟩))
    go_wp2
    go_ret
    exact ⟨rfl, pw_below_drewN HB014.out nd15⟩
  · have hlen : decide ((l0.length : Int) > 1048576) = true := decide_eq_true (by omega)
    clear hr0 hc0 P q0 w0 hl
    go_enter Try.func4, Try.ntmps4
    go_wp2
    go_ret
    exact ⟨rfl, Below.refl _ _⟩
end Go.Proofs.Ytnnineobacckgaa.PFnExactFootingsFor
