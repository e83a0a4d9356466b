/- FnExactFootingsOf: marks of rows in rows, and the law's walk. -/
import Derived.Test.YtnnineobacckgaaPFnExactFootingsOfx
import Derived.Deep.WholeRow
import Derived.BigRegion
import Derived.IntWalk
import Derived.Lib.SliceRun
import Derived.Laws.EntriesVeiled
namespace Go.Proofs.Ytnnineobacckgaa.PFnExactFootingsOf
open Go.RowKit Go.Proofs.YtnnineobacckgaaW.PrintWords Go.Proofs.YtnnineobacckgaaW.PrintLast Go.Proofs.YtnnineobacckgaaW.PrintMore
attribute [local go_sem] max2_int min2_int max_two min_two max_three min_three max_four min_four
set_option linter.unusedVariables false
set_option linter.unusedSimpArgs false
/-- markFootingS: each footing is marked in turn. -/
def markAllF (k : Nat) : List S44 → Int → Option (Int × List S44)
  | [], n => some (n, [])
  | c :: cs, n => (laws_markFootS.f k c.f1 (wrap64 (n + 1))).bind fun p => (markAllF k cs (wrap64 (p.1 + 1))).bind fun q => some (q.1, ⟨n, p.2, p.1⟩ :: q.2)
theorem grown_of {w0 w w1 : World} {P : Nat → Prop} {row : Option Nat} (hb : Below w0.heap.size w0 w) (hb1 : Below w0.heap.size w0 w1) (hk : Kept w w1 P) (hp : ∀ k, P k → some k = row) : w.grownBy w1 row :=
  ⟨hb1.os.trans hb.os.symm, hb1.tape.trans hb.tape.symm, hb1.output.trans hb.output.symm, hk.1, fun i hi hn => hk.2 i hi (fun h => hn (hp i h))⟩
section
variable {W : World} {base g L cap : Nat} {P : Nat → Prop} {done cs : List S44} {c : S44}
theorem get_mid (z : S44) : (done ++ c :: cs).getD ((done.length : Int)).toNat z = c := by
  rw [Int.toNat_natCast, List.getD_eq_getElem?_getD, List.getElem?_append_right (Nat.le_refl _), Nat.sub_self]; rfl
theorem set_mid (x : S44) : (done ++ c :: cs).set ((done.length : Int)).toNat x = done ++ x :: cs := by
  rw [Int.toNat_natCast, List.set_append_right _ _ (Nat.le_refl _), Nat.sub_self, List.set_cons_zero]
theorem seg0 (h : Kd.S k44 44 W base P (.slice (some ⟨g, 0, none⟩) L cap) (done ++ c :: cs)) (hl : done.length < L) (v : Int) :
    W.cell? ⟨g, done.length * 3, none⟩ = some (.int .i64 c.f0) ∧ W.frozen? ⟨g, done.length * 3, none⟩ = false ∧ Kd.S k44 44 (W.setCell ⟨g, done.length * 3, none⟩ (.int .i64 v)) base P (.slice (some ⟨g, 0, none⟩) L cap) (done ++ ⟨v, c.f1, c.f2⟩ :: cs) := by
  obtain ⟨oki, cc, hcl, hM, hcc, hfr, hoki, hH⟩ := Kd.S_elem (ok := fun k => P k ∧ ¬ (fun _ : Nat => False) k) (Kd.S_mono h (fun k hk => ⟨hk, fun h => h⟩)) z44 (done.length : Int) (by omega) (by omega)
  rw [get_mid] at hM
  obtain ⟨v1, rfl, g1⟩ := k44_openM hM
  have h2 := (Kd.S_seg (okg := fun _ => False) (okp := oki) hH (by omega) (by omega) (seg := [.int .i64 v]) (j := 0) (show 0 + 1 ≤ 3 by omega) (x' := (⟨v, c.f1, c.f2⟩ : S44)) (k44_mkM W base oki (⟨v, c.f1, c.f2⟩ : S44) g1) (fun k hk => .inl hk) (fun k hk => hk.elim)).1
  rw [set_mid] at h2
  refine ⟨?_, by have := hfr 0; simpa [k44, Kd.iso, Kd.pair, Kd.int, Kd.scalar, Kd.slice] using this, ?_⟩
  · have := hcc 0 _ rfl
    simpa [k44, Kd.iso, Kd.pair, Kd.int, Kd.scalar, Kd.slice] using this
  · simpa [k44, Kd.iso, Kd.pair, Kd.int, Kd.scalar, Kd.slice, World.setCells] using h2
theorem seg2 (h : Kd.S k44 44 W base P (.slice (some ⟨g, 0, none⟩) L cap) (done ++ c :: cs)) (hl : done.length < L) (v : Int) :
    W.cell? ⟨g, done.length * 3 + 2, none⟩ = some (.int .i64 c.f2) ∧ W.frozen? ⟨g, done.length * 3 + 2, none⟩ = false ∧ Kd.S k44 44 (W.setCell ⟨g, done.length * 3 + 2, none⟩ (.int .i64 v)) base P (.slice (some ⟨g, 0, none⟩) L cap) (done ++ ⟨c.f0, c.f1, v⟩ :: cs) := by
  obtain ⟨oki, cc, hcl, hM, hcc, hfr, hoki, hH⟩ := Kd.S_elem (ok := fun k => P k ∧ ¬ (fun _ : Nat => False) k) (Kd.S_mono h (fun k hk => ⟨hk, fun h => h⟩)) z44 (done.length : Int) (by omega) (by omega)
  rw [get_mid] at hM
  obtain ⟨v1, rfl, g1⟩ := k44_openM hM
  have h2 := (Kd.S_seg (okg := fun _ => False) (okp := oki) hH (by omega) (by omega) (seg := [.int .i64 v]) (j := 2) (show 2 + 1 ≤ 3 by omega) (x' := (⟨c.f0, c.f1, v⟩ : S44)) (k44_mkM W base oki (⟨c.f0, c.f1, v⟩ : S44) g1) (fun k hk => .inl hk) (fun k hk => hk.elim)).1
  rw [set_mid] at h2
  refine ⟨?_, by have := hfr 2; simpa [k44, Kd.iso, Kd.pair, Kd.int, Kd.scalar, Kd.slice] using this, ?_⟩
  · have := hcc 2 _ rfl
    simpa [k44, Kd.iso, Kd.pair, Kd.int, Kd.scalar, Kd.slice] using this
  · simpa [k44, Kd.iso, Kd.pair, Kd.int, Kd.scalar, Kd.slice, World.setCells] using h2
end
set_option maxHeartbeats 8000000 in
set_option maxRecDepth 100000 in
theorem markAllF_calls (k : Nat) (P : Nat → Prop) (u : Value) (l0 : List S44) (a1 r1 : Int) (r2 : List S44) (w0 w : World) (hB : Below w0.heap.size w0 w) (ho0 : Kd.S k44 44 w w0.heap.size P u l0) (hlen : l0.length ≤ 1000000) (h : markAllF k l0 a1 = some (r1, r2)) :
    Calls Try.prog 10 #[u, .int .i64 a1] w fun e w' => e = .returned (.int .i64 r1) ∧ Kd.S k44 44 w' w0.heap.size P u r2 ∧ Below w0.heap.size w0 w' := by
  rcases l0 with _ | ⟨x0, xs⟩
  · obtain ⟨A, c, rfl⟩ := Kd.S_slice ho0
    have e := Option.some.inj h
    simp only [Prod.mk.injEq] at e
    obtain ⟨rfl, rfl⟩ := e
    have HS := Aside0.mk ho0
    have HB := Aside0.mk hB
    clear h ho0 hB
    go_enter Try.func10, Try.ntmps10
    go_wp2
    go_loopg [1, 5] 1 (fun kq v1 v5 w' => v1 = .int .i64 a1 ∧ v5 = .int .i64 0 ∧ Aside0 (w' = w))
    case atStart => exact ⟨rfl, rfl, ⟨rfl⟩⟩
    case round =>
      obtain ⟨rfl, rfl, HW⟩ := hrel
      go_wp2
      go_ret
      exact ⟨rfl, HW.out ▸ HS.out, HW.out ▸ HB.out⟩
  · obtain ⟨g, cap, rfl, hbg, _, _⟩ := Kd.S_form ho0 (by simp)
    generalize hl : (x0 :: xs).length = L at ho0 hlen
    generalize x0 :: xs = l0 at ho0 h hl
    have HS := Aside0.mk ho0
    have HB := Aside0.mk hB
    have HL := Aside0.mk hl
    have HH := Aside0.mk h
    clear h ho0 hB hl
    go_enter Try.func10, Try.ntmps10
    go_wp2
    go_loopg [1, 5] (L + 1) (fun kq v1 v5 w' => ∃ (n : Int) (i : Nat) (done todo rest : List S44), v1 = .int .i64 n ∧ v5 = .int .i64 (i : Int) ∧ Aside0 (kq + i = L + 1) ∧ Aside0 (i = done.length) ∧ Aside0 (done.length + todo.length = L) ∧ Aside0 (markAllF k todo n = some (r1, rest)) ∧ Aside0 (r2 = done ++ rest) ∧ Aside0 (Kd.S k44 44 w' w0.heap.size P (.slice (some ⟨g, 0, none⟩) L cap) (done ++ todo)) ∧ Aside0 (Below w0.heap.size w0 w'))
    case atStart => exact ⟨a1, 0, [], l0, r2, rfl, rfl, ⟨by omega⟩, ⟨rfl⟩, ⟨by have := HL.out; simp only [List.length_nil]; omega⟩, HH, ⟨rfl⟩, HS, HB⟩
    case round =>
      obtain ⟨n, i, done, todo, rest, rfl, rfl, HM, HI, HL2, HF, HR, HS', HB'⟩ := hrel
      rcases todo with _ | ⟨c, cs⟩
      · have hi : i = L := by have := HI.out; have := HL2.out; simp only [List.length_nil] at this; omega
        subst hi
        go_wp2
        go_ret
        have e := Option.some.inj HF.out
        simp only [Prod.mk.injEq] at e
        obtain ⟨rfl, rfl⟩ := e
        have hs := HS'.out
        exact ⟨rfl, by rw [HR.out]; exact hs, HB'.out⟩
      · have hi : i < L := by have := HI.out; have := HL2.out; simp only [List.length_cons] at this; omega
        have hdl : done.length < L := by have := HI.out; omega
        have hF := HF.out
        rw [markAllF] at hF
        obtain ⟨⟨p1, p2⟩, hp, hF⟩ := Option.bind_eq_some_iff.1 hF
        obtain ⟨⟨q1, q2⟩, hq, hF⟩ := Option.bind_eq_some_iff.1 hF
        have e := Option.some.inj hF
        simp only [Prod.mk.injEq] at e
        obtain ⟨e1, e2⟩ := e
        have HP := Aside0.mk hp
        have HQ : Aside0 (markAllF k cs (wrap64 (p1 + 1)) = some (r1, q2)) := ⟨by rw [← e1]; exact hq⟩
        have HE := Aside0.mk e2
        clear hp hq hF e1 e2 HF
        obtain ⟨z1, z2, z3⟩ := seg0 HS'.out hdl n
        rw [← HI.out] at z1 z2 z3
        have HS1 := Aside0.mk z3
        have HB1 : Aside0 (Below w0.heap.size w0 (wr.setCell ⟨g, i * 3, none⟩ (.int .i64 n))) := ⟨below_set HB'.out hbg⟩
        clear z3
        obtain ⟨g1, rfl⟩ : ∃ g, gk = g + 1 := ⟨gk - 1, by have := HM.out; omega⟩
        have p5 : 0 ≤ (i : Int) := by omega
        have q5 : (i : Int) < (L : Int) := by omega
        replace p5 := eq_true p5
        replace q5 := eq_true q5
        go_upto_region 6 with (fail)
        generalize wr.setCell ⟨g, i * 3, none⟩ (.int .i64 n) = w1 at HS1 HB1 ⊢
        clear z1 z2
        obtain ⟨oki, cc, hcl, hM, hcc, hoki, hback⟩ := Kd.S_borrow HS1.out z44 (done.length : Int) (by omega) (by omega)
        rw [get_mid] at hM
        obtain ⟨v0, rfl, g0⟩ := k44_openM hM
        obtain ⟨A2, c2, rfl⟩ := Kd.R_slice g0
        have hx : w1.cell? ⟨g, i * 3 + 1, none⟩ = some (.slice A2 c.f1.length c2) := by
          have h := hcc 1 _ rfl
          rw [add_at, ← HI.out] at h
          simpa [k44, Kd.iso, Kd.pair, Kd.int, Kd.scalar, Kd.slice] using h
        have HG := Aside0.mk g0
        have HBK := Aside0.mk @hback
        clear hcc hcl hM hoki hback g0
        go_upto_region 7 with (first | (go_at_call 30; refine (laws_markFootS.calls k (fun k_ => some k_ = (Value.slice A2 c.f1.length c2).ownBlock) (.slice A2 c.f1.length c2) c.f1 (wrap64 (n + 1)) p1 p2 w0 _ HB1.out (Kd.R_tight rfl HG.out) HP.out).mono ?_; rintro e w2 ⟨rfl, hr, hb, hk⟩; have HR1 := Aside0.mk hr; have HB2 := Aside0.mk hb; have HK1 := Aside0.mk hk; clear hr hb hk))
        have hs2 := HBK.out (w1 := w2) (row := (Value.slice A2 c.f1.length c2).ownBlock) (x' := (⟨n, p2, c.f2⟩ : S44)) (grown_of HB1.out HB2.out HK1.out (fun k_ hk => hk)) (fun k_ hk => HG.out.1 k_ hk) (k44_mkM w2 w0.heap.size oki (⟨n, p2, c.f2⟩ : S44) (Kd.R_reok rfl HR1.out HG.out.1))
        rw [set_mid] at hs2
        obtain ⟨z1, z2, z3⟩ := seg2 hs2 hdl p1
        rw [← HI.out] at z1 z2 z3
        have HS3 := Aside0.mk z3
        have HB3 : Aside0 (Below w0.heap.size w0 (w2.setCell ⟨g, i * 3 + 2, none⟩ (.int .i64 p1))) := ⟨below_set HB2.out hbg⟩
        clear z3 hs2 hx
        go_wp2
        go_roundg g1
        case measure => omega
        case rel => exact ⟨wrap64 (p1 + 1), i + 1, done ++ [⟨n, p2, p1⟩], cs, q2, (by first | rfl | (simp; done)), (by first | rfl | (simp; done)), ⟨by have := HM.out; omega⟩, ⟨by rw [List.length_append, HI.out]; rfl⟩, ⟨by have h := HL2.out; rw [List.length_cons] at h; rw [List.length_append, List.length_singleton]; omega⟩, HQ, ⟨by rw [HR.out, ← HE.out, List.append_assoc]; rfl⟩, ⟨by rw [List.append_assoc]; exact HS3.out⟩, HB3⟩
/-- What the plain law owes. -/
def laws_FnExactFootingsOf.Pure : Prop := ∀ a0 : Int, (Lit.int .i64 a0).wf = true → ∃ (k : Nat) (G G' : List S44) (m : Int), spec_FootingsOf.f k a0 = some G ∧ impl_FootingsOf.f a0 = some G ∧ laws_eqFootingS.f k G G = some true ∧ markAllF k G 1 = some (m, G') ∧ laws_heldFootingS.f k G' 1 = some m ∧ 0 ≤ m ∧ G.length ≤ 1000000
set_option maxHeartbeats 8000000 in
set_option maxRecDepth 100000 in
theorem laws_FnExactFootingsOf.walk (P : laws_FnExactFootingsOf.Pure) (a0 : Int) (w : World) (w0 : (Lit.int .i64 a0).wf = true) :
    Calls Try.prog 3 #[.int .i64 a0] w fun e w' => e = .returned (.bool true) ∧ Below w.heap.size w w' := by
  obtain ⟨k, G, G', m, h1, h2, h3, h4, h5, h6, h7⟩ := P a0 w0
  have H1 := Aside0.mk h1
  have H2 := Aside0.mk h2
  have H3 := Aside0.mk h3
  have H4 := Aside0.mk h4
  have H5 := Aside0.mk h5
  have H7 := Aside0.mk h7
  clear h1 h2 h3 h4 h5 h7 P
  have hm : decide (m < 0) = false := decide_eq_false (by omega)
  go_enter Try.func3, Try.ntmps3
  go_upto_region 2 with (first | (go_at_call 7; refine (spec_FootingsOf.calls k a0 G _ H1.out).mono ?_; rintro e w1 ⟨v0, rfl, hN, hb1⟩; have HN := Aside0.mk hN; have HB1 := Aside0.mk hb1; clear hN hb1))
  obtain ⟨A0, c0, hv0⟩ := Kd.N_slice HN.out
  subst hv0
  go_upto_region 3 with (first | (go_at_call 8; refine (impl_FootingsOf.calls a0 G _ H2.out).mono ?_; rintro e w2 ⟨v1, rfl, hS, hb2⟩; have HS := Aside0.mk hS; have HB2 := Aside0.mk hb2; clear hS hb2))
  obtain ⟨A1, c1, hv1⟩ := Kd.S_slice HS.out
  subst hv1
  go_upto_region 5 with (first | (go_at_call 9; refine (laws_eqFootingS.calls k A1 c1 G A0 c0 G true _ (Kd.S_reads' HS.out).2.2 (Kd.S_reads' HS.out).2.1 (Kd.N_reads' (Kd.N_below HN.out HB2.out)).2.2 (Kd.N_reads' (Kd.N_below HN.out HB2.out)).2.1 H3.out).mono ?_; rintro e w3 ⟨rfl, hb3⟩; have HB3 := Aside0.mk hb3; clear hb3))
  have HB13 := Aside0.mk (below_then HB2.out HB2.out.size HB3.out)
  go_upto_region 7 with (first | (go_at_call 10; refine (markAllF_calls k (fun _ => True) (.slice A1 G.length c1) G 1 m G' w1 _ HB13.out (Kd.S_below HS.out HB3.out) H7.out H4.out).mono ?_; rintro e w4 ⟨rfl, hS4, hb4⟩; have HS4 := Aside0.mk hS4; have HB4 := Aside0.mk hb4; clear hS4 hb4))
  have hl4 : G.length = G'.length := (Kd.S_reads' HS4.out).1
  have HL4 := Aside0.mk hl4
  clear hl4
  go_upto_region 9 with (first | (go_at_call 11; refine (calls_of_args (args' := #[.slice A1 G'.length c1, .int .i64 1]) (by rw [HL4.out]) (laws_heldFootingS.calls k A1 c1 G' 1 m _ (Kd.S_reads' HS4.out).2.2 (by have := (Kd.S_reads' HS4.out).2.1; rw [← HL4.out]; exact this) H5.out)).mono ?_; rintro e w5 ⟨rfl, ⟨nd5, rfl⟩⟩))
  have HB5 := Aside0.mk (pw_below_drewN (Below.refl w4.heap.size w4) nd5)
  generalize w4.drewN nd5 = w5 at HB5 ⊢
  have HB15 := Aside0.mk (below_then HB4.out HB4.out.size HB5.out)
  have hmm : (m != m) = false := by simp
  go_upto_region 14 with (first | (go_at_call 8; refine (impl_FootingsOf.calls a0 G _ H2.out).mono ?_; rintro e w6 ⟨v2, rfl, hS6, hb6⟩; have HS6 := Aside0.mk hS6; have HB6 := Aside0.mk hb6; clear hS6 hb6))
  obtain ⟨A2, c2, hv2⟩ := Kd.S_slice HS6.out
  subst hv2
  have HB16 := Aside0.mk (below_then HB15.out HB15.out.size HB6.out)
  have HB46 := Aside0.mk (below_then HB5.out HB5.out.size HB6.out)
  go_upto_region 16 with (first | (go_at_call 9; refine (laws_eqFootingS.calls k A2 c2 G A0 c0 G true _ (Kd.S_reads' HS6.out).2.2 (Kd.S_reads' HS6.out).2.1 (Kd.N_reads' (Kd.N_below HN.out HB16.out)).2.2 (Kd.N_reads' (Kd.N_below HN.out HB16.out)).2.1 H3.out).mono ?_; rintro e w7 ⟨rfl, hb7⟩; have HB7 := Aside0.mk hb7; clear hb7))
  have HB47 := Aside0.mk (below_then HB46.out HB46.out.size HB7.out)
  have HB17 := Aside0.mk (below_then HB16.out HB16.out.size HB7.out)
  go_upto_region 18 with (first | (go_at_call 11; refine (calls_of_args (args' := #[.slice A1 G'.length c1, .int .i64 1]) (by rw [HL4.out]) (laws_heldFootingS.calls k A1 c1 G' 1 m _ (Kd.S_reads' (Kd.S_below HS4.out HB47.out)).2.2 (by have := (Kd.S_reads' HS4.out).2.1; rw [← HL4.out]; exact this) H5.out)).mono ?_; rintro e w8 ⟨rfl, ⟨nd8, rfl⟩⟩))
  go_wp2
  go_ret
  exact ⟨rfl, below_then HB1.out HB1.out.size (pw_below_drewN HB17.out nd8)⟩
end Go.Proofs.Ytnnineobacckgaa.PFnExactFootingsOf
