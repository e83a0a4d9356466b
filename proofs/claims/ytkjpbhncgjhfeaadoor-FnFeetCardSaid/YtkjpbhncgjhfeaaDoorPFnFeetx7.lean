import Derived.Test.YtkjpbhncgjhfeaaDoorPFnFeetx0
namespace Go.Proofs.YtkjpbhncgjhfeaaDoor.PFnFeet
open Go.RowKit Go.Proofs.YtkjpbhncgjhfeaaDoorW.PrintWords Go.Proofs.YtkjpbhncgjhfeaaDoorW.PrintLast Go.Proofs.YtkjpbhncgjhfeaaDoorW.PrintMore
attribute [local go_sem] max2_int min2_int max_two min_two max_three min_three max_four min_four
set_option linter.unusedVariables false
set_option linter.unusedSimpArgs false
set_option maxHeartbeats 8000000
set_option maxRecDepth 100000
set_option maxHeartbeats 4000000 in
set_option maxRecDepth 100000 in
theorem impl_FootingsOf.clone_calls (v : Value) (xs : List S59) (w : World) (base : Nat) (ok : Nat → Prop) (ho : Kd.R k59 59 w base ok v xs) (hx : xs.length ≤ 1000000) :
  Calls Tryd.prog 46 #[v] w fun e w' => ∃ v' : Value, e = .returned v' ∧ Kd.R k59 59 w' w.heap.size (fun k_ => w.heap.size ≤ k_) v' xs ∧ Below w.heap.size w w' := by
 obtain ⟨A, c, rfl, hlc, hC⟩ := Kd.R_reads ho; have HC := qa hC; have HX := qa hx
 have hnil : ∀ (w : World) (a : Option Addr) (n c : Nat), (binOp .eql 29 (.slice a n c) (.slice none 0 0)).run Tryd.prog w = .ok (.bool a.isNone) w := fun w a n c => Lib.run_eql_slice_nil w 29 59 a n c 0 0 Tryd.underlying29
 clear hC hx ho
 rcases A with _ | ad
 ·have h0 : xs = [] := by
   rcases xs with _ | ⟨y, ys⟩
   ·rfl
   ·obtain ⟨ad, h, _⟩ := HC.out.2.2 (by simp)
    cases h
  subst h0; go_enter Tryd.func46, Tryd.ntmps46; go_wp2; go_ret; exact ⟨_, rfl, Kd.R_nil _ _ _ _ _, qsb _ _⟩
 ·go_enter Tryd.func46, Tryd.ntmps46
  go_wp2_with (first
   | ((with_reducible refine gate_dst (N := 5) rfl ?_); refine qcc k59 _ 59 ?hg (N := 5) ?hd (xs := ([] : List (S59))) (inner := []) (ok := fun k_ => w.heap.size ≤ k_) (okp := fun k_ => w.heap.size ≤ k_) ?hr ?hp (fun _ hk => hk) (qqb _) (qsb _ _) (qqb _) (by simp) ?_; (case hd => rfl); (case hg => rfl); (case hr => first | (go_simp; done) | (go_simp; rfl)); (case hp => exact (Reps.none _ _)); intro v1 w1 ho1 hb hg_ hnew_)
   | ((with_reducible refine gate_builtin (b := .append) (xs := #[.tmp 5, .tmp 6]) rfl ?_); at_builtin; refine Kd.R_append_rows k59 (Rr := k59.K w) (w0 := w) w.heap.size rfl (.tmp 5) (.tmp 6) 29 59 _ 24 rfl Tryd.underlying29 info59 rfl (by decide) (by omega) v1 [] xs (some ad) xs.length c (fun k_ => w.heap.size ≤ k_) (fun _ => False) rfl rfl ho1 ?aR ?aM (fun _ hk => hk.elim) ?aF hb ?aS ?aL ?_; (case aR => exact HC.out.imp_ hb (fun _ _ hk => hk)); (case aM => exact fun x cs hk => (k59_open hk) ▸ k59_mkM _ _ _ x); (case aF => exact fun k_ hk => qrb hb.size hk); (case aS => exact hb.size); (case aL => have := HX.out; simp only [List.length_nil]; omega); intro v2 w2 ho2 hb2 hg2 hat2))
  go_ret; exact ⟨_, rfl, ho2, hb2⟩
def impl_FootingsOf.foot3 (at_ : Int) : List S59 := [⟨at_, 1, 0⟩, ⟨at_, 2, 0⟩, ⟨at_, 2, 1⟩]
def impl_FootingsOf.restF (n : Int) : Nat → Int → List S59 → List S31
 | 0, _, _ => []
 | k + 1, at_, feet => if at_ = n then (List.range feet.length).map (fun (m : Nat) => (⟨n, feet, (m : Int)⟩ : S31)) else impl_FootingsOf.restF n k (at_ + 1) feet ++ (impl_FootingsOf.foot3 at_).flatMap (fun x => if at_ + x.f1 ≤ n then impl_FootingsOf.restF n k (at_ + x.f1) (feet ++ [x]) else [])
def impl_FootingsOf.pcF (n : Int) (k : Nat) (at_ : Int) (feet : List S59) (x : S59) : List S31 := if at_ + x.f1 ≤ n then impl_FootingsOf.restF n k (at_ + x.f1) (feet ++ [x]) else []
theorem impl_FootingsOf.restF_step (n : Int) (k : Nat) (at_ : Int) (feet : List S59) (h : ¬ at_ = n) : impl_FootingsOf.restF n (k + 1) at_ feet = impl_FootingsOf.restF n k (at_ + 1) feet ++ (impl_FootingsOf.foot3 at_).flatMap (impl_FootingsOf.pcF n k at_ feet) := by rw [impl_FootingsOf.restF, if_neg h]; rfl
structure impl_FootingsOf.St (w0 : World) (n : Int) (gn gf go gr : Nat) (w : World) (vf vo : Value) (feet : List S59) (outs : List S31) : Prop where
 hn : w.heap[gn]? = some (.cells #[.int .i64 n] 3 (0, 0))
 hf : w.heap[gf]? = some (.cells #[vf] 29 (0, 0))
 ho : w.heap[go]? = some (.cells #[vo] 26 (0, 0))
 hr : w.heap[gr]? = some (.cells #[.func (.func 45) #[] #[.pointer (some ⟨gn, 0, none⟩), .pointer (some ⟨gf, 0, none⟩), .pointer (some ⟨go, 0, none⟩), .pointer (some ⟨gr, 0, none⟩)]] 61 (0, 0))
 rf : Kd.R k59 59 w w0.heap.size (fun _ => True) vf feet
 ro : Kd.S k31 31 w w0.heap.size (fun k_ => some k_ ≠ vf.ownBlock) vo outs
 hb : Below w0.heap.size w0 w
 bf : w0.heap.size ≤ gf
 bo : w0.heap.size ≤ go
structure impl_FootingsOf.Pst (gf go : Nat) (w w' : World) (vf vo vf' vo' : Value) : Prop where
 kept : Kept w w' (fun i => (i = gf ∨ i = go) ∨ some i = vf.ownBlock ∨ some i = vo.ownBlock)
 wf : vf'.ownBlock = vf.ownBlock ∨ ∃ b, vf'.ownBlock = some b ∧ w.heap.size ≤ b
 wo : vo'.ownBlock = vo.ownBlock ∨ ∃ b, vo'.ownBlock = some b ∧ w.heap.size ≤ b
theorem impl_FootingsOf.Pst.refl (gf go : Nat) (w : World) (vf vo : Value) : impl_FootingsOf.Pst gf go w w vf vo vf vo := ⟨Kept.refl _ _, .inl rfl, .inl rfl⟩
theorem impl_FootingsOf.Pst.below {gf go : Nat} {w w' : World} {vf vo : Value} (h : Below w.heap.size w w') : impl_FootingsOf.Pst gf go w w' vf vo vf vo := ⟨Kept.of_below h _, .inl rfl, .inl rfl⟩
theorem impl_FootingsOf.Pst.trans {gf go : Nat} {w w1 w2 : World} {vf vo vf1 vo1 vf2 vo2 : Value} (h : impl_FootingsOf.Pst gf go w w1 vf vo vf1 vo1) (k : impl_FootingsOf.Pst gf go w1 w2 vf1 vo1 vf2 vo2) : impl_FootingsOf.Pst gf go w w2 vf vo vf2 vo2 := by
 refine ⟨h.kept.then_ k.kept (fun i hi => ?_), ?_, ?_⟩
 ·rcases hi with hi | hi | hi
  ·exact .inl (.inl hi)
  ·rcases h.wf with e | ⟨b, e, hb⟩
   ·exact .inl (.inr (.inl (hi.trans e)))
   ·rw [e] at hi; injection hi with hi; exact .inr (by omega)
  ·rcases h.wo with e | ⟨b, e, hb⟩
   ·exact .inl (.inr (.inr (hi.trans e)))
   ·rw [e] at hi; injection hi with hi; exact .inr (by omega)
 ·rcases k.wf with e | ⟨b, e, hb⟩
  ·rcases h.wf with e' | h'
   ·exact .inl (e.trans e')
   ·exact .inr (e ▸ h')
  ·exact .inr ⟨b, e, qrb h.kept.1 hb⟩
 ·rcases k.wo with e | ⟨b, e, hb⟩
  ·rcases h.wo with e' | h'
   ·exact .inl (e.trans e')
   ·exact .inr (e ▸ h')
  ·exact .inr ⟨b, e, qrb h.kept.1 hb⟩
theorem impl_FootingsOf.Pst.far {gf go : Nat} {w w' : World} {vf vo vf' vo' : Value} (h : impl_FootingsOf.Pst gf go w w' vf vo vf' vo') {g : Nat} {o : Obj} (hb : w.heap[g]? = some o) (h1 : g ≠ gf) (h2 : g ≠ go) (h3 : some g ≠ vf.ownBlock) (h4 : some g ≠ vo.ownBlock) : w'.heap[g]? = some o ∧ some g ≠ vf'.ownBlock ∧ some g ≠ vo'.ownBlock := by
 have hl := blk_lt hb; refine ⟨blk_kept hb h.kept (fun hs => ?_), fun he => ?_, fun he => ?_⟩
 ·rcases hs with (hs | hs) | hs | hs
  ·exact h1 hs
  ·exact h2 hs
  ·exact h3 hs
  ·exact h4 hs
 ·rcases h.wf with e | ⟨b, e, hb⟩
  ·exact h3 (he.trans e)
  ·rw [e] at he; injection he with he; omega
 ·rcases h.wo with e | ⟨b, e, hb⟩
  ·exact h4 (he.trans e)
  ·rw [e] at he; injection he with he; omega
section
variable {w0 : World} {n : Int} {gn gf go gr : Nat} {w w1 w2 : World} {vf vo : Value} {feet : List S59} {outs : List S31}
theorem impl_FootingsOf.St.below (h : impl_FootingsOf.St w0 n gn gf go gr w vf vo feet outs) (hb : Below w.heap.size w w1) : impl_FootingsOf.St w0 n gn gf go gr w1 vf vo feet outs :=
 ⟨(hb.block gn (blk_lt h.hn)).trans h.hn, (hb.block gf (blk_lt h.hf)).trans h.hf, (hb.block go (blk_lt h.ho)).trans h.ho, (hb.block gr (blk_lt h.hr)).trans h.hr, qya h.rf hb, Kd.S_below h.ro hb, below_then h.hb (qp h.hb) hb, h.bf, h.bo⟩
theorem impl_FootingsOf.ne_of_type {w : World} {g g' t t' : Nat} {cs cs' : Array Value} (h : w.heap[g]? = some (.cells cs t (0, 0))) (h' : w.heap[g']? = some (.cells cs' t' (0, 0))) (ht : t ≠ t') : g ≠ g' := by
 intro he; subst he; rw [h] at h'
 injection h' with h'
 injection h' with _ h'
 exact ht h'
theorem impl_FootingsOf.St.push (h : impl_FootingsOf.St w0 n gn gf go gr w vf vo feet outs) {v2 : Value} {outs2 : List S31} (hg : w.grownBy w2 vo.ownBlock) (hS : Kd.S k31 31 w2 w0.heap.size (fun k_ => some k_ ≠ vf.ownBlock) v2 outs2) (hB : Below w0.heap.size w0 w2) (hat : v2.ownBlock = vo.ownBlock ∨ ∃ b, v2.ownBlock = some b ∧ w.heap.size ≤ b) :
  impl_FootingsOf.St w0 n gn gf go gr (w2.setCell ⟨go, 0, none⟩ v2) vf v2 feet outs2 ∧ impl_FootingsOf.Pst gf go w (w2.setCell ⟨go, 0, none⟩ v2) vf vo vf v2 ∧ w2.cell? ⟨gn, 0, none⟩ = some (.int .i64 n) ∧ w2.cell? ⟨gf, 0, none⟩ = some vf ∧ w2.cell? ⟨go, 0, none⟩ = some vo ∧ w2.frozen? ⟨go, 0, none⟩ = false := by
 have hn2 := (hg.block gn (blk_lt h.hn) (Kd.S_ne h.ro h.hn (by decide))).trans h.hn; have hf2 := (hg.block gf (blk_lt h.hf) (Kd.S_ne h.ro h.hf (by decide))).trans h.hf; have ho2 := (hg.block go (blk_lt h.ho) (Kd.S_ne h.ro h.ho (by decide))).trans h.ho; have hr2 := (hg.block gr (blk_lt h.hr) (Kd.S_ne h.ro h.hr (by decide))).trans h.hr; have rf2 := Kd.R_over' h.rf (Kd.S_typed h.ro) (by decide) hg; refine ⟨⟨(Below.heap_setCell _ _ _ _ (impl_FootingsOf.ne_of_type hn2 ho2 (by decide))).trans hn2, (Below.heap_setCell _ _ _ _ (impl_FootingsOf.ne_of_type hf2 ho2 (by decide))).trans hf2, blk_set ho2 0 v2, (Below.heap_setCell _ _ _ _ (impl_FootingsOf.ne_of_type hr2 ho2 (by decide))).trans hr2, Kd.R_set rf2 ho2 (by decide) 0 v2, Kd.S_set hS ho2 (by decide) 0 v2, qj hB h.bo, h.bf, h.bo⟩, ⟨?_, .inl rfl, hat⟩, qi hn2 0, qi hf2 0, qi ho2 0, qo ho2 0⟩; exact ((Kept.refl w _).of_grown hg (fun k hk => .inl (.inr (.inr hk.symm)))).setCell (.inl (.inl (.inr rfl))) v2
theorem impl_FootingsOf.St.pushF (h : impl_FootingsOf.St w0 n gn gf go gr w vf vo feet outs) {v2 : Value} {feet2 : List S59} (hg : w.grownBy w2 vf.ownBlock) (hR : Kd.R k59 59 w2 w0.heap.size (fun _ => True) v2 feet2) (hB : Below w0.heap.size w0 w2) (hat : v2.ownBlock = vf.ownBlock ∨ ∃ b, v2.ownBlock = some b ∧ w.heap.size ≤ b) :
  impl_FootingsOf.St w0 n gn gf go gr (w2.setCell ⟨gf, 0, none⟩ v2) v2 vo feet2 outs ∧ impl_FootingsOf.Pst gf go w (w2.setCell ⟨gf, 0, none⟩ v2) vf vo v2 vo ∧ w2.cell? ⟨gf, 0, none⟩ = some vf ∧ w2.frozen? ⟨gf, 0, none⟩ = false := by
 have hn2 := (hg.block gn (blk_lt h.hn) (Kd.R_ne h.rf h.hn (by decide))).trans h.hn; have hf2 := (hg.block gf (blk_lt h.hf) (Kd.R_ne h.rf h.hf (by decide))).trans h.hf; have ho2 := (hg.block go (blk_lt h.ho) (Kd.R_ne h.rf h.ho (by decide))).trans h.ho; have hr2 := (hg.block gr (blk_lt h.hr) (Kd.R_ne h.rf h.hr (by decide))).trans h.hr; have ro2 : Kd.S k31 31 w2 w0.heap.size (fun k_ => some k_ ≠ v2.ownBlock) vo outs := Kd.S_mono (Kd.S_after (ok := fun _ => True) (v := vf) (v1 := v2) (Kd.S_mono h.ro (fun k_ hk => ⟨trivial, hk⟩)) hg hat) (fun k_ hk => hk.2); refine ⟨⟨(Below.heap_setCell _ _ _ _ (impl_FootingsOf.ne_of_type hn2 hf2 (by decide))).trans hn2, blk_set hf2 0 v2, (Below.heap_setCell _ _ _ _ (impl_FootingsOf.ne_of_type ho2 hf2 (by decide))).trans ho2, (Below.heap_setCell _ _ _ _ (impl_FootingsOf.ne_of_type hr2 hf2 (by decide))).trans hr2, Kd.R_set hR hf2 (by decide) 0 v2, Kd.S_set ro2 hf2 (by decide) 0 v2, qj hB h.bf, h.bf, h.bo⟩, ⟨?_, hat, .inl rfl⟩, qi hf2 0, qo hf2 0⟩; exact ((Kept.refl w _).of_grown hg (fun k hk => .inl (.inr (.inl hk.symm)))).setCell (.inl (.inl (.inl rfl))) v2
theorem impl_FootingsOf.St.popF {A : Option Addr} {L c m : Nat} (h : impl_FootingsOf.St w0 n gn gf go gr w (.slice A L c) vo feet outs) (hm : m ≤ feet.length) :
  impl_FootingsOf.St w0 n gn gf go gr (w.setCell ⟨gf, 0, none⟩ (.slice A m c)) (.slice A m c) vo (feet.take m) outs ∧ impl_FootingsOf.Pst gf go w (w.setCell ⟨gf, 0, none⟩ (.slice A m c)) (.slice A L c) vo (.slice A m c) vo := by
 have e : (Value.slice A L c).ownBlock = (Value.slice A m c).ownBlock := by cases A <;> rfl
 refine ⟨⟨(Below.heap_setCell _ _ _ _ (impl_FootingsOf.ne_of_type h.hn h.hf (by decide))).trans h.hn, blk_set h.hf 0 _, (Below.heap_setCell _ _ _ _ (impl_FootingsOf.ne_of_type h.ho h.hf (by decide))).trans h.ho, (Below.heap_setCell _ _ _ _ (impl_FootingsOf.ne_of_type h.hr h.hf (by decide))).trans h.hr, Kd.R_set (Kd.R_take h.rf hm) h.hf (by decide) 0 _, Kd.S_set (by rw [← e]; exact h.ro) h.hf (by decide) 0 _, qj h.hb h.bf, h.bf, h.bo⟩, ⟨?_, .inl e.symm, .inl rfl⟩⟩; exact (Kept.refl w _).setCell (.inl (.inl (.inl rfl))) _
end
def impl_FootingsOf.RPost (w0 : World) (n : Int) (gn gf go gr : Nat) (w : World) (vf vo : Value) (feet : List S59) (outs : List S31) (e : Ending) (w' : World) : Prop := e = .returned (.tuple #[]) ∧ ∃ vf' vo' : Value, impl_FootingsOf.St w0 n gn gf go gr w' vf' vo' feet outs ∧ impl_FootingsOf.Pst gf go w w' vf vo vf' vo'
set_option maxHeartbeats 4000000 in
set_option maxRecDepth 100000 in
theorem impl_FootingsOf.rest_calls (w0 : World) (n : Int) (gn gf go gr : Nat) (hn4 : n ≤ 4) : ∀ (k : Nat) (at_ : Int) (feet : List S59) (outs : List S31) (vf vo : Value) (w : World) (hk : n - at_ < k) (h0 : 0 ≤ at_) (hn : at_ ≤ n) (hfl : (feet.length : Int) ≤ at_) (hol : outs.length + (impl_FootingsOf.restF n k at_ feet).length ≤ 1000000) (hst : impl_FootingsOf.St w0 n gn gf go gr w vf vo feet outs),
  Calls Tryd.prog 45 #[.int .i64 at_, .pointer (some ⟨gn, 0, none⟩), .pointer (some ⟨gf, 0, none⟩), .pointer (some ⟨go, 0, none⟩), .pointer (some ⟨gr, 0, none⟩)] w (impl_FootingsOf.RPost w0 n gn gf go gr w vf vo feet (outs ++ impl_FootingsOf.restF n k at_ feet)) := by
 intro k
 induction k with
 | zero => intro at_ feet outs vf vo w hk h0 hn; omega
 | succ k ih =>
  intro at_ feet outs vf vo w hk h0 hn hfl hol hst; have HST := qa hst; have HOL := qa hol; have HIH := qa ih; clear ih hol; have cn := qi hst.hn 0; have cf := qi hst.hf 0; have co := qi hst.ho 0; have cr := qi hst.hr 0; simp only [List.getElem?_toArray, List.getElem?_cons_zero] at cn cf co cr; clear hst
  by_cases he : at_ = n
  ·have HE := qa he
   have heb : (at_ == n) = true := beq_iff_eq.2 he; obtain ⟨A, c, hv, hlc, hC⟩ := Kd.R_reads HST.out.rf; subst hv; have HC := qa hC; clear he hC; go_enter Tryd.func45, Tryd.ntmps45; go_wp2
   go_loopg [14] (feet.length + 1) (fun kq v14 w' => ∃ (m : Nat) (vo' : Value), v14 = .int .i64 (m : Int) ∧ Aside0 (kq + m = feet.length + 1) ∧ Aside0 (m ≤ feet.length) ∧ Aside0 (impl_FootingsOf.St w0 n gn gf go gr w' (.slice A feet.length c) vo' feet (outs ++ (List.range m).map (fun (m : Nat) => (⟨n, feet, (m : Int)⟩ : S31)))) ∧ Aside0 (impl_FootingsOf.Pst gf go w w' (.slice A feet.length c) vo (.slice A feet.length c) vo'))
   case atStart => exact ⟨0, vo, rfl, ⟨by omega⟩, ⟨Nat.zero_le _⟩, ⟨by simpa using HST.out⟩, ⟨impl_FootingsOf.Pst.refl _ _ _ _ _⟩⟩
   case round =>
    clear cn cf co cr; obtain ⟨m, vo', rfl, HM, HL, HS', HP⟩ := hrel; have cn := qi HS'.out.hn 0; have cf := qi HS'.out.hf 0; have co := qi HS'.out.ho 0; have fo := qo HS'.out.ho 0; simp only [List.getElem?_toArray, List.getElem?_cons_zero] at cn cf co
    by_cases hc : (m : Int) < (feet.length : Int)
    ·have hcb : decide ((m : Int) < (feet.length : Int)) = true := qq hc
     obtain ⟨g1, rfl⟩ : ∃ g, gk = g + 1 := ⟨gk - 1, by have := HM.out; omega⟩
     go_wp2
     have HL2 : Aside0 (outs.length + feet.length ≤ 1000000) := ⟨by have h := HOL.out; rw [impl_FootingsOf.restF, if_pos HE.out, List.length_map, List.length_range] at h; exact h⟩
     refine start_ (n := 9) (S := fun w' => w'.cell? ⟨gn, 0, none⟩ = some (.int .i64 n) ∧ w'.cell? ⟨gf, 0, none⟩ = some (.slice A feet.length c) ∧ w'.cell? ⟨go, 0, none⟩ = some vo') (ds := [8]) #[false, false, false, false, false, false, false, false, false] (by kernel_rfl) rfl rfl ⟨cn, cf, co⟩ (fun hHeld => ?_); refine pure_ (i := 4) (N := some 21) (v := ?_) (a' := ?_) #[false, false, false, false, true, false, false, false, false] rfl rfl (by kernel_rfl) (fun _ _ _ h => h) (Or.inl ⟨by rfl, ?_⟩) ?_ ?_; rotate_left
     ·intro w'
      go_simp; with_reducible rfl
     rotate_left
     ·simp only [Act.put, qb, qc, qd, i64_w, i32_w]
      rfl
     refine take_ (i := 0) (N := some 17) (v := ?_) (a' := ?_) #[true, false, false, false, true, false, false, false, false] rfl rfl (by kernel_rfl) (fun _ _ _ h => h) (Or.inl ⟨by rfl, ?_⟩) hHeld ?_ ?_; rotate_left
     ·rintro w' ⟨s0, s1, s2⟩
      go_simp; with_reducible rfl
     rotate_left
     ·simp only [Act.put, qb, qc, qd, i64_w, i32_w]
      rfl
     refine take_ (i := 1) (N := some 18) (v := ?_) (a' := ?_) #[true, true, false, false, true, false, false, false, false] rfl rfl (by kernel_rfl) (fun _ _ _ h => h) (Or.inl ⟨by rfl, ?_⟩) hHeld ?_ ?_; rotate_left
     ·rintro w' ⟨s0, s1, s2⟩
      go_simp; with_reducible rfl
     rotate_left
     ·simp only [Act.put, qb, qc, qd, i64_w, i32_w]
      rfl
     refine take_ (i := 2) (N := some 19) (v := ?_) (a' := ?_) #[true, true, true, false, true, false, false, false, false] rfl rfl (by kernel_rfl) (fun _ _ _ h => h) (Or.inl ⟨by rfl, ?_⟩) hHeld ?_ ?_; rotate_left
     ·rintro w' ⟨s0, s1, s2⟩
      go_simp; with_reducible rfl
     rotate_left
     ·simp only [Act.put, qb, qc, qd, i64_w, i32_w]
      rfl
     refine one_ (i := 3) (N := some 20) #[true, true, true, true, true, false, false, false, false] rfl rfl (by kernel_rfl) (by decide) (fun K hK => ?_); refine goes_ Tryd.func46 (by kernel_rfl) rfl #[.slice A feet.length c] (by rfl) rfl rfl (by (try simp only [qs, qv, qw]); first | done | rfl) ?_; refine (impl_FootingsOf.clone_calls _ feet _ w0.heap.size (fun _ => True) (qz HS'.out.rf) (by have := HL2.out; omega)).mono ?_; rintro e w1 ⟨v1, rfl, hr1, hb1⟩; obtain ⟨A1, c1, hv1, hl1, hC1⟩ := Kd.R_reads hr1; subst hv1; have HR1 := qa (show Kd.R k59 59 w1 wr.heap.size (fun k_ => wr.heap.size ≤ k_) (.slice A1 feet.length c1) feet from hr1); have HB1 := qa (show Below wr.heap.size wr w1 from ⟨hb1.os, hb1.tape, hb1.output, hb1.size, hb1.block⟩); clear hr1 hC1 hb1; have kn := pw_cell_below HB1.out cn; have kf := pw_cell_below HB1.out cf; have ko := pw_cell_below HB1.out co; refine ⟨_, rfl, ?_⟩; refine hK.out _ _ ⟨kn, kf, ko⟩ (fun hHeld => ?_); clear hK K; refine norm_ (a' := ?_) ?_ ?_; rotate_left
     ·show Act.put _ (some 20) _ = _
      simp only [Act.put, qb, qc, qd, i64_w, i32_w]; rfl
     refine pure_ (i := 5) (N := some 22) (v := ?_) (a' := ?_) #[true, true, true, true, true, true, false, false, false] rfl rfl (by kernel_rfl) (fun _ _ _ h => h) (Or.inl ⟨by rfl, ?_⟩) ?_ ?_; rotate_left
     ·intro w'
      go_simp; with_reducible rfl
     rotate_left
     ·simp only [Act.put, qb, qc, qd, i64_w, i32_w]
      rfl
     refine one_ (i := 6) (N := some 23) #[true, true, true, true, true, true, true, false, false] rfl rfl (by kernel_rfl) (by decide) (fun K hK => ?_); refine value_ (w1 := w1.alloc (.cells #[.int .i64 n, .slice A1 feet.length c1, .int .i64 (m : Int)] 31)) (v := .slice (some ⟨w1.heap.size, 0, none⟩) 1 1) (by rfl) rfl ?_ ?_
     ·first | (go_simp; done) | (go_simp; rfl)
     refine hK.out _ _ ⟨pw_cell_below (qh (qsb _ _) _) kn, pw_cell_below (qh (qsb _ _) _) kf, pw_cell_below (qh (qsb _ _) _) ko⟩ (fun hHeld => ?_); clear hK K; refine norm_ (a' := ?_) ?_ ?_; rotate_left
     ·show Act.put _ (some 23) _ = _
      simp only [Act.put, qb, qc, qd, i64_w, i32_w]; rfl
     refine one_ (i := 7) (N := some 24) #[true, true, true, true, true, true, true, true, false] rfl rfl (by kernel_rfl) (by decide) (fun K hK => ?_); refine Kd.S_append_step k31 (w0 := w0) w0.heap.size (by rfl) (.tmp 17) (.tmp 23) 26 31 _ 40 (by rfl) Tryd.underlying26 info31 rfl (by decide) (by omega) _ (outs ++ (List.range m).map (fun (m : Nat) => (⟨n, feet, (m : Int)⟩ : S31))) (⟨n, feet, (m : Int)⟩ : S31) [.int .i64 n, .slice A1 feet.length c1, .int .i64 (m : Int)] (fun k_ => some k_ ≠ (Value.slice A feet.length c).ownBlock) (fun k_ => wr.heap.size ≤ k_) (by rfl) (by rfl) ?aP ?aK ?aF ?aO ?aB ?aS ?aL ?_
     case aP => exact k31_mkM _ _ _ (⟨n, feet, (m : Int)⟩ : S31) (qvb HR1.out (qp HS'.out.hb))
     case aK => exact fun k_ hk => ⟨fun he => Nat.lt_irrefl _ (Nat.lt_of_lt_of_le (Kd.R_lt HS'.out.rf k_ he.symm) hk), fun he => Nat.lt_irrefl _ (Nat.lt_of_lt_of_le (Kd.S_lt HS'.out.ro k_ he.symm) hk)⟩
     case aF => exact fun k_ hk he => Nat.lt_irrefl _ (Nat.lt_of_lt_of_le (Kd.R_lt HS'.out.rf k_ he.symm) (qrb HB1.out.size hk))
     case aO => exact Kd.S_mono (Kd.S_old HS'.out.ro HB1.out) (fun k_ hk => ⟨hk.1, fun h2 => Nat.lt_irrefl _ (Nat.lt_of_lt_of_le hk.2 h2)⟩)
     case aB => exact (HS'.out.below HB1.out).hb
     case aS => exact qp (HS'.out.below HB1.out).hb
     case aL => have := HL2.out; simp only [List.length_append, List.length_map, List.length_range]; omega
     intro v2 w2 hS2 hB2 hg2 hat2
     obtain ⟨A2, L2, c2, hv2⟩ : ∃ A L c, v2 = Value.slice A L c := by obtain ⟨A, c, h⟩ := Kd.S_slice hS2; exact ⟨A, _, c, h⟩
     subst hv2; obtain ⟨hst2, hp2, jn, jf, jo, jz⟩ := (HS'.out.below HB1.out).push hg2 hS2 hB2 hat2; have HST2 := qa hst2; have HP2 := qa ((HP.out.trans (impl_FootingsOf.Pst.below HB1.out)).trans hp2); clear hst2 hp2 hS2 hB2 hg2 hat2; refine hK.out _ _ ⟨jn, jf, jo⟩ (fun hHeld => ?_); clear hK K; refine norm_ (a' := ?_) ?_ ?_; rotate_left
     ·show Act.put _ (some 24) _ = _
      simp only [Act.put, qb, qc, qd, i64_w, i32_w]; rfl
     refine last_ (i := 8) (N := none) #[true, true, true, true, true, true, true, true, true] rfl rfl (by kernel_rfl) (by decide) (fun K hK => ?_); refine skip_ (w1 := ?_) (by rfl) rfl ?_ ?_; rotate_left
     ·go_simp
      rfl
     refine hK.out _ _ ?_; clear hK K; refine done_ (by kernel_rfl) ?_; go_wp2
     go_roundg g1
     case measure => omega
     case rel => exact ⟨m + 1, _, (by first | rfl | (simp; done)), ⟨by have := HM.out; omega⟩, ⟨by omega⟩, ⟨by have h := HST2.out; rw [List.append_assoc] at h; rw [List.range_succ, List.map_append]; exact h⟩, HP2⟩
    ·have hcb : decide ((m : Int) < (feet.length : Int)) = false := qr hc
     have hm : m = feet.length := by have := HL.out; omega
     subst hm; go_wp2
     go_end0
     exact ⟨rfl, _, _, by
      have h := HS'.out; rw [impl_FootingsOf.restF, if_pos HE.out]
      exact h, HP.out⟩
  ·have heb : (at_ == n) = false := beq_eq_false_iff_ne.2 he
   have hlt : at_ < n := by omega
   have HE := qa (impl_FootingsOf.restF_step n k at_ feet he)
   have HOL2 : Aside0 (outs.length + (impl_FootingsOf.restF n k (at_ + 1) feet).length + ((impl_FootingsOf.foot3 at_).flatMap (impl_FootingsOf.pcF n k at_ feet)).length ≤ 1000000) := ⟨by have h := HOL.out; rw [HE.out, List.length_append] at h; omega⟩
   clear he; go_enter Tryd.func45, Tryd.ntmps45
   go_wp2_with (first | (go_at_call 45; refine (HIH.out (at_ + 1) feet outs vf vo _ (by omega) (by omega) (by omega) (by omega) (by have := HOL2.out; omega) HST.out).mono ?_; rintro e w1 ⟨rfl, vf1, vo1, hst1, hp1⟩; have HST1 := qa hst1; have HP1 := qa hp1; clear hst1 hp1 cn cf co cr))
   have lt1 := blk_lt HST1.out.hf; have lt2 := blk_lt HST1.out.ho
   go_loopg [38] 4 (fun kq v38 w' => ∃ (j : Nat) (vf' vo' : Value), v38 = .int .i64 (j : Int) ∧ Aside0 (kq + j = 4) ∧ Aside0 (j ≤ 3) ∧ Aside0 (impl_FootingsOf.St w0 n gn gf go gr w' vf' vo' feet (outs ++ impl_FootingsOf.restF n k (at_ + 1) feet ++ ((impl_FootingsOf.foot3 at_).take j).flatMap (impl_FootingsOf.pcF n k at_ feet))) ∧ Aside0 (w'.heap[w1.heap.size]? = some (.cells #[.int .i64 at_, .int .i64 1, .int .i64 0, .int .i64 at_, .int .i64 2, .int .i64 0, .int .i64 at_, .int .i64 2, .int .i64 1] 59 (0, 0))) ∧ Aside0 (some w1.heap.size ≠ vf'.ownBlock) ∧ Aside0 (impl_FootingsOf.Pst gf go w w' vf vo vf' vo'))
   case atStart => exact ⟨0, vf1, vo1, rfl, ⟨by omega⟩, ⟨by omega⟩, ⟨by have h := HST1.out.below (qh (qsb _ _) (.cells #[.int .i64 at_, .int .i64 1, .int .i64 0, .int .i64 at_, .int .i64 2, .int .i64 0, .int .i64 at_, .int .i64 2, .int .i64 1] 59)); simpa using h⟩, ⟨Go.heap_alloc_last w1 _⟩, ⟨fun he => Nat.lt_irrefl _ (Kd.R_lt HST1.out.rf _ he.symm)⟩, ⟨HP1.out.trans (impl_FootingsOf.Pst.below (qh (qsb _ _) _))⟩⟩
   case round =>
    obtain ⟨j, vf', vo', rfl, HM, HL, HS', HLT, HNE, HP⟩ := hrel; have cn := qi HS'.out.hn 0; have cf := qi HS'.out.hf 0; have cr := qi HS'.out.hr 0; have ff := qo HS'.out.hf 0; simp only [List.getElem?_toArray, List.getElem?_cons_zero] at cn cf cr
    by_cases hj3 : j = 3
    ·subst hj3
     go_wp2
     go_end0
     exact ⟨rfl, vf', vo', by
      have h := HS'.out; rw [HE.out, ← List.append_assoc]
      exact h, HP.out⟩
    ·have hj : j = 0 ∨ j = 1 ∨ j = 2 := by have := HL.out; omega
     rcases hj with rfl | rfl | rfl
     ·have q0 := qi HLT.out 0
      have q1 := qi HLT.out 1; have q2 := qi HLT.out 2; simp only [List.getElem?_toArray, List.getElem?_cons_zero, List.getElem?_cons_succ] at q0 q1 q2
      obtain ⟨g1, rfl⟩ : ∃ g, gk = g + 1 := ⟨gk - 1, by have := HM.out; omega⟩
      have hsum : outs.length + (impl_FootingsOf.restF n k (at_ + 1) feet).length + (((impl_FootingsOf.foot3 at_).take 0).flatMap (impl_FootingsOf.pcF n k at_ feet)).length + (impl_FootingsOf.pcF n k at_ feet (⟨at_, 1, 0⟩ : S59)).length ≤ 1000000 := by
       have h := HOL2.out
       have e : (impl_FootingsOf.foot3 at_).flatMap (impl_FootingsOf.pcF n k at_ feet) = ((impl_FootingsOf.foot3 at_).take 0).flatMap (impl_FootingsOf.pcF n k at_ feet) ++ (impl_FootingsOf.pcF n k at_ feet (⟨at_, 1, 0⟩ : S59) ++ ((impl_FootingsOf.foot3 at_).drop 1).flatMap (impl_FootingsOf.pcF n k at_ feet)) := by simp [impl_FootingsOf.foot3]
       rw [e] at h; simp only [List.length_append] at h; omega
      have HSUM := qa hsum; clear hsum; have hbz := qh (qsb wr.heap.size wr) (.cells #[.int .i64 at_, .int .i64 1, .int .i64 0] 59); have HSz := qa (HS'.out.below hbz); have HPz := qa (HP.out.trans (impl_FootingsOf.Pst.below hbz)); have HXz := qa (Go.heap_alloc_last wr (.cells #[.int .i64 at_, .int .i64 1, .int .i64 0] 59)); have HLz := qa ((hbz.block _ (blk_lt HLT.out)).trans HLT.out); have HNX := qa (fun he => Nat.lt_irrefl _ (Kd.R_lt HS'.out.rf _ he.symm) : some wr.heap.size ≠ vf'.ownBlock); have HNO := qa (fun he => Nat.lt_irrefl _ (Kd.S_lt HS'.out.ro _ he.symm) : some wr.heap.size ≠ vo'.ownBlock); have HNL := qa (Kd.S_ne HS'.out.ro HLT.out (by decide)); have HGF := qa (fun he => Nat.lt_irrefl _ (he ▸ blk_lt HS'.out.hf) : wr.heap.size ≠ gf); have HGO := qa (fun he => Nat.lt_irrefl _ (he ▸ blk_lt HS'.out.ho) : wr.heap.size ≠ go); have HPL := qa (impl_FootingsOf.Pst.below (gf := gf) (go := go) (vf := vf') (vo := vo') hbz); clear hbz
      by_cases hle : at_ + 1 ≤ n
      ·go_upto_region 10 with (fail)
       clear cn cf cr ff q0 q1 q2; generalize hgx : wr.heap.size = gx at HSz HPz HXz HLz HNX HNO HGF HGO HPL ⊢; generalize hwz : wr.alloc (.cells #[.int .i64 at_, .int .i64 1, .int .i64 0] 59) = wz at HSz HPz HXz HLz HPL ⊢; clear hwz hgx; have cn := qi HSz.out.hn 0; have cf := qi HSz.out.hf 0; have cr := qi HSz.out.hr 0; have ff := qo HSz.out.hf 0; have q0 := qi HXz.out 0; have q1 := qi HXz.out 1; have q2 := qi HXz.out 2; simp only [List.getElem?_toArray, List.getElem?_cons_zero, List.getElem?_cons_succ] at cn cf cr q0 q1 q2
       go_upto_region 12 with (first
        | ((with_reducible refine gate_builtin (b := .append) (xs := #[.tmp 48, .tmp 50]) rfl ?_); at_builtin; refine Kd.R_append k59 (w0 := w0) w0.heap.size rfl (.tmp 48) (.tmp 50) 29 59 _ 24 rfl Tryd.underlying29 info59 rfl (by decide) (by omega) vf' feet (⟨at_, 1, 0⟩ : S59) [.int .i64 at_, .int .i64 1, .int .i64 0] (fun _ => True) (fun _ => False) rfl rfl ?aP (fun _ hk => hk.elim) (fun _ _ => trivial) ?aO ?aB ?aS ?aL ?_; (case aP => exact k59_mkM _ _ _ (⟨at_, 1, 0⟩ : S59)); (case aO => exact HSz.out.rf); (case aB => exact HSz.out.hb); (case aS => exact qp HSz.out.hb); (case aL => omega); intro v2 w2 hR2 hB2 hg2 hat2; obtain ⟨A2, L2, c2, hv2⟩ : ∃ A L c, v2 = Value.slice A L c := (by obtain ⟨A, c, h⟩ := Kd.R_slice hR2; exact ⟨A, _, c, h⟩); subst hv2; obtain ⟨hst2, hp2, jf, jz⟩ := HSz.out.pushF hg2 hR2 hB2 hat2; have HST2 := qa hst2; have HP2 := qa hp2; clear hst2 hp2 hR2 hB2 hg2 hat2))
       have HP3 := qa (HPL.out.trans HP2.out); have HX3 := qa (HP2.out.far HXz.out HGF.out HGO.out HNX.out HNO.out); generalize w2.setCell ⟨gf, 0, none⟩ (.slice A2 L2 c2) = w3 at HST2 HP2 HP3 HX3 ⊢; clear cn cf cr ff q0 q1 q2 jf jz; have cn := qi HST2.out.hn 0; have cf := qi HST2.out.hf 0; have cr := qi HST2.out.hr 0; have q0 := qi HX3.out.1 0; have q1 := qi HX3.out.1 1; have q2 := qi HX3.out.1 2; simp only [List.getElem?_toArray, List.getElem?_cons_zero, List.getElem?_cons_succ] at cn cf cr q0 q1 q2; have epc : impl_FootingsOf.pcF n k at_ feet (⟨at_, 1, 0⟩ : S59) = impl_FootingsOf.restF n k (at_ + 1) (feet ++ [(⟨at_, 1, 0⟩ : S59)]) := if_pos hle; have HEP := qa epc; clear epc
       go_upto_region 13 with (first
        | (go_at_call 45; refine (HIH.out (at_ + 1) (feet ++ [(⟨at_, 1, 0⟩ : S59)]) (outs ++ impl_FootingsOf.restF n k (at_ + 1) feet ++ ((impl_FootingsOf.foot3 at_).take 0).flatMap (impl_FootingsOf.pcF n k at_ feet)) (.slice A2 L2 c2) vo' _ (by omega) (by omega) (by omega) (by simp only [List.length_append, List.length_singleton]; omega) (by have h := HSUM.out; rw [HEP.out] at h; simp only [List.length_append]; omega) HST2.out).mono ?_; rintro e w4 ⟨rfl, vf4, vo4, hst4, hp4⟩; have HST4 := qa hst4; have HP4 := qa (HP3.out.trans hp4); clear hst4 hp4))
       obtain ⟨A4, c4, hv4, hl4, _⟩ := Kd.R_reads HST4.out.rf; subst hv4; clear cn cf cr q0 q1 q2; have cf := qi HST4.out.hf 0; have ff := qo HST4.out.hf 0; simp only [List.getElem?_toArray, List.getElem?_cons_zero, List.length_append, List.length_singleton] at cf hl4
       have n0 : 0 ≤ ((feet.length + 1 : Nat) : Int) - 1 := by omega
       go_wp2; have hpop := HST4.out.popF (m := feet.length) (by simp only [List.length_append, List.length_singleton]; omega); rw [List.take_left] at hpop; have HP5 := qa (HP4.out.trans hpop.2); have HST5 := qa hpop.1; clear hpop; have HF5 := qa (HP5.out.far HLT.out (by omega) (by omega) HNE.out HNL.out)
       go_roundg g1
       case measure => omega
       case rel => exact ⟨0 + 1, _, vo4, (by first | rfl | (simp; done)), ⟨by have := HM.out; omega⟩, ⟨by omega⟩, ⟨by
        have h := HST5.out; rw [show (impl_FootingsOf.foot3 at_).take (0 + 1) = (impl_FootingsOf.foot3 at_).take 0 ++ [(⟨at_, 1, 0⟩ : S59)] from rfl, List.flatMap_append, ← List.append_assoc, List.flatMap_singleton, HEP.out]
        exact h⟩, ⟨HF5.out.1⟩, ⟨HF5.out.2.1⟩, ⟨HP.out.trans HP5.out⟩⟩
      ·omega
     ·have q0 := qi HLT.out 3
      have q1 := qi HLT.out 4; have q2 := qi HLT.out 5; simp only [List.getElem?_toArray, List.getElem?_cons_zero, List.getElem?_cons_succ] at q0 q1 q2
      obtain ⟨g1, rfl⟩ : ∃ g, gk = g + 1 := ⟨gk - 1, by have := HM.out; omega⟩
      have hsum : outs.length + (impl_FootingsOf.restF n k (at_ + 1) feet).length + (((impl_FootingsOf.foot3 at_).take 1).flatMap (impl_FootingsOf.pcF n k at_ feet)).length + (impl_FootingsOf.pcF n k at_ feet (⟨at_, 2, 0⟩ : S59)).length ≤ 1000000 := by
       have h := HOL2.out
       have e : (impl_FootingsOf.foot3 at_).flatMap (impl_FootingsOf.pcF n k at_ feet) = ((impl_FootingsOf.foot3 at_).take 1).flatMap (impl_FootingsOf.pcF n k at_ feet) ++ (impl_FootingsOf.pcF n k at_ feet (⟨at_, 2, 0⟩ : S59) ++ ((impl_FootingsOf.foot3 at_).drop 2).flatMap (impl_FootingsOf.pcF n k at_ feet)) := by simp [impl_FootingsOf.foot3]
       rw [e] at h; simp only [List.length_append] at h; omega
      have HSUM := qa hsum; clear hsum; have hbz := qh (qsb wr.heap.size wr) (.cells #[.int .i64 at_, .int .i64 2, .int .i64 0] 59); have HSz := qa (HS'.out.below hbz); have HPz := qa (HP.out.trans (impl_FootingsOf.Pst.below hbz)); have HXz := qa (Go.heap_alloc_last wr (.cells #[.int .i64 at_, .int .i64 2, .int .i64 0] 59)); have HLz := qa ((hbz.block _ (blk_lt HLT.out)).trans HLT.out); have HNX := qa (fun he => Nat.lt_irrefl _ (Kd.R_lt HS'.out.rf _ he.symm) : some wr.heap.size ≠ vf'.ownBlock); have HNO := qa (fun he => Nat.lt_irrefl _ (Kd.S_lt HS'.out.ro _ he.symm) : some wr.heap.size ≠ vo'.ownBlock); have HNL := qa (Kd.S_ne HS'.out.ro HLT.out (by decide)); have HGF := qa (fun he => Nat.lt_irrefl _ (he ▸ blk_lt HS'.out.hf) : wr.heap.size ≠ gf); have HGO := qa (fun he => Nat.lt_irrefl _ (he ▸ blk_lt HS'.out.ho) : wr.heap.size ≠ go); have HPL := qa (impl_FootingsOf.Pst.below (gf := gf) (go := go) (vf := vf') (vo := vo') hbz); clear hbz
      by_cases hle : at_ + 2 ≤ n
      ·go_upto_region 10 with (fail)
       clear cn cf cr ff q0 q1 q2; generalize hgx : wr.heap.size = gx at HSz HPz HXz HLz HNX HNO HGF HGO HPL ⊢; generalize hwz : wr.alloc (.cells #[.int .i64 at_, .int .i64 2, .int .i64 0] 59) = wz at HSz HPz HXz HLz HPL ⊢; clear hwz hgx; have cn := qi HSz.out.hn 0; have cf := qi HSz.out.hf 0; have cr := qi HSz.out.hr 0; have ff := qo HSz.out.hf 0; have q0 := qi HXz.out 0; have q1 := qi HXz.out 1; have q2 := qi HXz.out 2; simp only [List.getElem?_toArray, List.getElem?_cons_zero, List.getElem?_cons_succ] at cn cf cr q0 q1 q2
       go_upto_region 12 with (first
        | ((with_reducible refine gate_builtin (b := .append) (xs := #[.tmp 48, .tmp 50]) rfl ?_); at_builtin; refine Kd.R_append k59 (w0 := w0) w0.heap.size rfl (.tmp 48) (.tmp 50) 29 59 _ 24 rfl Tryd.underlying29 info59 rfl (by decide) (by omega) vf' feet (⟨at_, 2, 0⟩ : S59) [.int .i64 at_, .int .i64 2, .int .i64 0] (fun _ => True) (fun _ => False) rfl rfl ?aP (fun _ hk => hk.elim) (fun _ _ => trivial) ?aO ?aB ?aS ?aL ?_; (case aP => exact k59_mkM _ _ _ (⟨at_, 2, 0⟩ : S59)); (case aO => exact HSz.out.rf); (case aB => exact HSz.out.hb); (case aS => exact qp HSz.out.hb); (case aL => omega); intro v2 w2 hR2 hB2 hg2 hat2; obtain ⟨A2, L2, c2, hv2⟩ : ∃ A L c, v2 = Value.slice A L c := (by obtain ⟨A, c, h⟩ := Kd.R_slice hR2; exact ⟨A, _, c, h⟩); subst hv2; obtain ⟨hst2, hp2, jf, jz⟩ := HSz.out.pushF hg2 hR2 hB2 hat2; have HST2 := qa hst2; have HP2 := qa hp2; clear hst2 hp2 hR2 hB2 hg2 hat2))
       have HP3 := qa (HPL.out.trans HP2.out); have HX3 := qa (HP2.out.far HXz.out HGF.out HGO.out HNX.out HNO.out); generalize w2.setCell ⟨gf, 0, none⟩ (.slice A2 L2 c2) = w3 at HST2 HP2 HP3 HX3 ⊢; clear cn cf cr ff q0 q1 q2 jf jz; have cn := qi HST2.out.hn 0; have cf := qi HST2.out.hf 0; have cr := qi HST2.out.hr 0; have q0 := qi HX3.out.1 0; have q1 := qi HX3.out.1 1; have q2 := qi HX3.out.1 2; simp only [List.getElem?_toArray, List.getElem?_cons_zero, List.getElem?_cons_succ] at cn cf cr q0 q1 q2; have epc : impl_FootingsOf.pcF n k at_ feet (⟨at_, 2, 0⟩ : S59) = impl_FootingsOf.restF n k (at_ + 2) (feet ++ [(⟨at_, 2, 0⟩ : S59)]) := if_pos hle; have HEP := qa epc; clear epc
       go_upto_region 13 with (first
        | (go_at_call 45; refine (HIH.out (at_ + 2) (feet ++ [(⟨at_, 2, 0⟩ : S59)]) (outs ++ impl_FootingsOf.restF n k (at_ + 1) feet ++ ((impl_FootingsOf.foot3 at_).take 1).flatMap (impl_FootingsOf.pcF n k at_ feet)) (.slice A2 L2 c2) vo' _ (by omega) (by omega) (by omega) (by simp only [List.length_append, List.length_singleton]; omega) (by have h := HSUM.out; rw [HEP.out] at h; simp only [List.length_append]; omega) HST2.out).mono ?_; rintro e w4 ⟨rfl, vf4, vo4, hst4, hp4⟩; have HST4 := qa hst4; have HP4 := qa (HP3.out.trans hp4); clear hst4 hp4))
       obtain ⟨A4, c4, hv4, hl4, _⟩ := Kd.R_reads HST4.out.rf; subst hv4; clear cn cf cr q0 q1 q2; have cf := qi HST4.out.hf 0; have ff := qo HST4.out.hf 0; simp only [List.getElem?_toArray, List.getElem?_cons_zero, List.length_append, List.length_singleton] at cf hl4
       have n0 : 0 ≤ ((feet.length + 1 : Nat) : Int) - 1 := by omega
       go_wp2; have hpop := HST4.out.popF (m := feet.length) (by simp only [List.length_append, List.length_singleton]; omega); rw [List.take_left] at hpop; have HP5 := qa (HP4.out.trans hpop.2); have HST5 := qa hpop.1; clear hpop; have HF5 := qa (HP5.out.far HLT.out (by omega) (by omega) HNE.out HNL.out)
       go_roundg g1
       case measure => omega
       case rel => exact ⟨1 + 1, _, vo4, (by first | rfl | (simp; done)), ⟨by have := HM.out; omega⟩, ⟨by omega⟩, ⟨by
        have h := HST5.out; rw [show (impl_FootingsOf.foot3 at_).take (1 + 1) = (impl_FootingsOf.foot3 at_).take 1 ++ [(⟨at_, 2, 0⟩ : S59)] from rfl, List.flatMap_append, ← List.append_assoc, List.flatMap_singleton, HEP.out]
        exact h⟩, ⟨HF5.out.1⟩, ⟨HF5.out.2.1⟩, ⟨HP.out.trans HP5.out⟩⟩
      ·have hlb : decide (at_ + 2 ≤ n) = false := qr hle
       have epc : impl_FootingsOf.pcF n k at_ feet (⟨at_, 2, 0⟩ : S59) = [] := if_neg hle; have HEP := qa epc; clear epc
       go_upto_region 10 with (fail)
       clear cn cf cr ff q0 q1 q2; generalize hgx : wr.heap.size = gx at HSz HPz HXz HLz HNX HNO HGF HGO HPL ⊢; generalize hwz : wr.alloc (.cells #[.int .i64 at_, .int .i64 2, .int .i64 0] 59) = wz at HSz HPz HXz HLz HPL ⊢; clear hwz hgx; have cn := qi HSz.out.hn 0; have q0 := qi HXz.out 0; have q1 := qi HXz.out 1; have q2 := qi HXz.out 2; simp only [List.getElem?_toArray, List.getElem?_cons_zero, List.getElem?_cons_succ] at cn q0 q1 q2; go_wp2
       go_roundg g1
       case measure => omega
       case rel => exact ⟨1 + 1, vf', vo', (by first | rfl | (simp; done)), ⟨by have := HM.out; omega⟩, ⟨by omega⟩, ⟨by
        have h := HSz.out; rw [show (impl_FootingsOf.foot3 at_).take (1 + 1) = (impl_FootingsOf.foot3 at_).take 1 ++ [(⟨at_, 2, 0⟩ : S59)] from rfl, List.flatMap_append, ← List.append_assoc, List.flatMap_singleton, HEP.out, List.append_nil]
        exact h⟩, ⟨HLz.out⟩, HNE, ⟨HPz.out⟩⟩
     ·have q0 := qi HLT.out 6
      have q1 := qi HLT.out 7; have q2 := qi HLT.out 8; simp only [List.getElem?_toArray, List.getElem?_cons_zero, List.getElem?_cons_succ] at q0 q1 q2
      obtain ⟨g1, rfl⟩ : ∃ g, gk = g + 1 := ⟨gk - 1, by have := HM.out; omega⟩
      have hsum : outs.length + (impl_FootingsOf.restF n k (at_ + 1) feet).length + (((impl_FootingsOf.foot3 at_).take 2).flatMap (impl_FootingsOf.pcF n k at_ feet)).length + (impl_FootingsOf.pcF n k at_ feet (⟨at_, 2, 1⟩ : S59)).length ≤ 1000000 := by
       have h := HOL2.out
       have e : (impl_FootingsOf.foot3 at_).flatMap (impl_FootingsOf.pcF n k at_ feet) = ((impl_FootingsOf.foot3 at_).take 2).flatMap (impl_FootingsOf.pcF n k at_ feet) ++ (impl_FootingsOf.pcF n k at_ feet (⟨at_, 2, 1⟩ : S59) ++ ((impl_FootingsOf.foot3 at_).drop 3).flatMap (impl_FootingsOf.pcF n k at_ feet)) := by simp [impl_FootingsOf.foot3]
       rw [e] at h; simp only [List.length_append] at h; omega
      have HSUM := qa hsum; clear hsum; have hbz := qh (qsb wr.heap.size wr) (.cells #[.int .i64 at_, .int .i64 2, .int .i64 1] 59); have HSz := qa (HS'.out.below hbz); have HPz := qa (HP.out.trans (impl_FootingsOf.Pst.below hbz)); have HXz := qa (Go.heap_alloc_last wr (.cells #[.int .i64 at_, .int .i64 2, .int .i64 1] 59)); have HLz := qa ((hbz.block _ (blk_lt HLT.out)).trans HLT.out); have HNX := qa (fun he => Nat.lt_irrefl _ (Kd.R_lt HS'.out.rf _ he.symm) : some wr.heap.size ≠ vf'.ownBlock); have HNO := qa (fun he => Nat.lt_irrefl _ (Kd.S_lt HS'.out.ro _ he.symm) : some wr.heap.size ≠ vo'.ownBlock); have HNL := qa (Kd.S_ne HS'.out.ro HLT.out (by decide)); have HGF := qa (fun he => Nat.lt_irrefl _ (he ▸ blk_lt HS'.out.hf) : wr.heap.size ≠ gf); have HGO := qa (fun he => Nat.lt_irrefl _ (he ▸ blk_lt HS'.out.ho) : wr.heap.size ≠ go); have HPL := qa (impl_FootingsOf.Pst.below (gf := gf) (go := go) (vf := vf') (vo := vo') hbz); clear hbz
      by_cases hle : at_ + 2 ≤ n
      ·go_upto_region 10 with (fail)
       clear cn cf cr ff q0 q1 q2; generalize hgx : wr.heap.size = gx at HSz HPz HXz HLz HNX HNO HGF HGO HPL ⊢; generalize hwz : wr.alloc (.cells #[.int .i64 at_, .int .i64 2, .int .i64 1] 59) = wz at HSz HPz HXz HLz HPL ⊢; clear hwz hgx; have cn := qi HSz.out.hn 0; have cf := qi HSz.out.hf 0; have cr := qi HSz.out.hr 0; have ff := qo HSz.out.hf 0; have q0 := qi HXz.out 0; have q1 := qi HXz.out 1; have q2 := qi HXz.out 2; simp only [List.getElem?_toArray, List.getElem?_cons_zero, List.getElem?_cons_succ] at cn cf cr q0 q1 q2
       go_upto_region 12 with (first
        | ((with_reducible refine gate_builtin (b := .append) (xs := #[.tmp 48, .tmp 50]) rfl ?_); at_builtin; refine Kd.R_append k59 (w0 := w0) w0.heap.size rfl (.tmp 48) (.tmp 50) 29 59 _ 24 rfl Tryd.underlying29 info59 rfl (by decide) (by omega) vf' feet (⟨at_, 2, 1⟩ : S59) [.int .i64 at_, .int .i64 2, .int .i64 1] (fun _ => True) (fun _ => False) rfl rfl ?aP (fun _ hk => hk.elim) (fun _ _ => trivial) ?aO ?aB ?aS ?aL ?_; (case aP => exact k59_mkM _ _ _ (⟨at_, 2, 1⟩ : S59)); (case aO => exact HSz.out.rf); (case aB => exact HSz.out.hb); (case aS => exact qp HSz.out.hb); (case aL => omega); intro v2 w2 hR2 hB2 hg2 hat2; obtain ⟨A2, L2, c2, hv2⟩ : ∃ A L c, v2 = Value.slice A L c := (by obtain ⟨A, c, h⟩ := Kd.R_slice hR2; exact ⟨A, _, c, h⟩); subst hv2; obtain ⟨hst2, hp2, jf, jz⟩ := HSz.out.pushF hg2 hR2 hB2 hat2; have HST2 := qa hst2; have HP2 := qa hp2; clear hst2 hp2 hR2 hB2 hg2 hat2))
       have HP3 := qa (HPL.out.trans HP2.out); have HX3 := qa (HP2.out.far HXz.out HGF.out HGO.out HNX.out HNO.out); generalize w2.setCell ⟨gf, 0, none⟩ (.slice A2 L2 c2) = w3 at HST2 HP2 HP3 HX3 ⊢; clear cn cf cr ff q0 q1 q2 jf jz; have cn := qi HST2.out.hn 0; have cf := qi HST2.out.hf 0; have cr := qi HST2.out.hr 0; have q0 := qi HX3.out.1 0; have q1 := qi HX3.out.1 1; have q2 := qi HX3.out.1 2; simp only [List.getElem?_toArray, List.getElem?_cons_zero, List.getElem?_cons_succ] at cn cf cr q0 q1 q2; have epc : impl_FootingsOf.pcF n k at_ feet (⟨at_, 2, 1⟩ : S59) = impl_FootingsOf.restF n k (at_ + 2) (feet ++ [(⟨at_, 2, 1⟩ : S59)]) := if_pos hle; have HEP := qa epc; clear epc
       go_upto_region 13 with (first
        | (go_at_call 45; refine (HIH.out (at_ + 2) (feet ++ [(⟨at_, 2, 1⟩ : S59)]) (outs ++ impl_FootingsOf.restF n k (at_ + 1) feet ++ ((impl_FootingsOf.foot3 at_).take 2).flatMap (impl_FootingsOf.pcF n k at_ feet)) (.slice A2 L2 c2) vo' _ (by omega) (by omega) (by omega) (by simp only [List.length_append, List.length_singleton]; omega) (by have h := HSUM.out; rw [HEP.out] at h; simp only [List.length_append]; omega) HST2.out).mono ?_; rintro e w4 ⟨rfl, vf4, vo4, hst4, hp4⟩; have HST4 := qa hst4; have HP4 := qa (HP3.out.trans hp4); clear hst4 hp4))
       obtain ⟨A4, c4, hv4, hl4, _⟩ := Kd.R_reads HST4.out.rf; subst hv4; clear cn cf cr q0 q1 q2; have cf := qi HST4.out.hf 0; have ff := qo HST4.out.hf 0; simp only [List.getElem?_toArray, List.getElem?_cons_zero, List.length_append, List.length_singleton] at cf hl4
       have n0 : 0 ≤ ((feet.length + 1 : Nat) : Int) - 1 := by omega
       go_wp2; have hpop := HST4.out.popF (m := feet.length) (by simp only [List.length_append, List.length_singleton]; omega); rw [List.take_left] at hpop; have HP5 := qa (HP4.out.trans hpop.2); have HST5 := qa hpop.1; clear hpop; have HF5 := qa (HP5.out.far HLT.out (by omega) (by omega) HNE.out HNL.out)
       go_roundg g1
       case measure => omega
       case rel => exact ⟨2 + 1, _, vo4, (by first | rfl | (simp; done)), ⟨by have := HM.out; omega⟩, ⟨by omega⟩, ⟨by
        have h := HST5.out; rw [show (impl_FootingsOf.foot3 at_).take (2 + 1) = (impl_FootingsOf.foot3 at_).take 2 ++ [(⟨at_, 2, 1⟩ : S59)] from rfl, List.flatMap_append, ← List.append_assoc, List.flatMap_singleton, HEP.out]
        exact h⟩, ⟨HF5.out.1⟩, ⟨HF5.out.2.1⟩, ⟨HP.out.trans HP5.out⟩⟩
      ·have hlb : decide (at_ + 2 ≤ n) = false := qr hle
       have epc : impl_FootingsOf.pcF n k at_ feet (⟨at_, 2, 1⟩ : S59) = [] := if_neg hle; have HEP := qa epc; clear epc
       go_upto_region 10 with (fail)
       clear cn cf cr ff q0 q1 q2; generalize hgx : wr.heap.size = gx at HSz HPz HXz HLz HNX HNO HGF HGO HPL ⊢; generalize hwz : wr.alloc (.cells #[.int .i64 at_, .int .i64 2, .int .i64 1] 59) = wz at HSz HPz HXz HLz HPL ⊢; clear hwz hgx; have cn := qi HSz.out.hn 0; have q0 := qi HXz.out 0; have q1 := qi HXz.out 1; have q2 := qi HXz.out 2; simp only [List.getElem?_toArray, List.getElem?_cons_zero, List.getElem?_cons_succ] at cn q0 q1 q2; go_wp2
       go_roundg g1
       case measure => omega
       case rel => exact ⟨2 + 1, vf', vo', (by first | rfl | (simp; done)), ⟨by have := HM.out; omega⟩, ⟨by omega⟩, ⟨by
        have h := HSz.out; rw [show (impl_FootingsOf.foot3 at_).take (2 + 1) = (impl_FootingsOf.foot3 at_).take 2 ++ [(⟨at_, 2, 1⟩ : S59)] from rfl, List.flatMap_append, ← List.append_assoc, List.flatMap_singleton, HEP.out, List.append_nil]
        exact h⟩, ⟨HLz.out⟩, HNE, ⟨HPz.out⟩⟩
def impl_FootingsOf.implF (a0 : Int) : List S31 := if 1 ≤ a0 ∧ a0 ≤ 4 then impl_FootingsOf.restF a0 10 0 [] else []
def impl_FootingsOf.f (a0 : Int) : Option (List S31) := some (impl_FootingsOf.implF a0)
theorem impl_FootingsOf.implF_len : ∀ n : Int, 1 ≤ n → n ≤ 4 → (impl_FootingsOf.restF n 10 0 []).length ≤ 1000 := by
 intro n h1 h2
 have : n = 1 ∨ n = 2 ∨ n = 3 ∨ n = 4 := by omega
 rcases this with rfl | rfl | rfl | rfl <;> decide +kernel
set_option maxHeartbeats 4000000 in
set_option maxRecDepth 100000 in
theorem impl_FootingsOf.calls (a0 : Int) (r : List S31) (w : World) (h : impl_FootingsOf.f a0 = some r) :
  Calls Tryd.prog 14 #[.int .i64 a0] w fun e w' => ∃ v0_ : Value, e = .returned v0_ ∧ Kd.S k31 31 w' w.heap.size (fun _ => True) v0_ r ∧ Below w.heap.size w w' := by
 obtain rfl := qia h; clear h
 by_cases h1 : 1 ≤ a0
 ·by_cases h4 : a0 ≤ 4
  ·have HF := qa (show impl_FootingsOf.implF a0 = impl_FootingsOf.restF a0 10 0 [] from if_pos ⟨h1, h4⟩)
   have hmf : ∀ (fn : Fn) (first cap : Array Value) (w : World), (Instr.makeFunc fn first cap).run Tryd.prog w = .ok (.func fn first cap) w := fun _ _ _ _ => rfl
   go_enter Tryd.func14, Tryd.ntmps14
   go_upto_region 3 with (first | go_in)
   go_outline
   go_upto_region 6 with (first
    | ((with_reducible refine gate_dst (N := 9) rfl ?_); refine Kd.S_lit k31 (w0 := w) w.heap.size 31 ?hg (N := 9) ?hd (xs := ([] : List S31)) (inner := []) (ok := fun k_ => w.heap.size ≤ k_) (okp := fun k_ => w.heap.size ≤ k_) ?hr ?hp (fun _ hk => hk) ?hf ?hb ?hs (by simp) ?_; (case hd => rfl); (case hg => rfl); (case hr => first | (go_simp; done) | (go_simp; rfl)); (case hp => exact (Reps.none _ _)); (case hf => simp); (case hb => exact qh (qsb _ _) _); (case hs => simp); intro v1 w1 ho1 hb1 hg1 hnew1; obtain ⟨A1, L1, c1, hv1⟩ : ∃ A L c, v1 = Value.slice A L c := (by obtain ⟨A, c, h⟩ := Kd.S_slice ho1; exact ⟨A, _, c, h⟩); subst hv1)
    | ((with_reducible refine gate_dst (N := 10) rfl ?_); refine qcc k59 (w0 := w) w.heap.size 59 ?hg (N := 10) ?hd (xs := ([] : List (S59))) (inner := []) (ok := fun _ => True) (okp := fun _ => True) ?hr ?hp (fun _ hk => hk) trivial ?hb ?hs (by simp) ?_; (case hd => rfl); (case hg => rfl); (case hr => first | (go_simp; done) | (go_simp; rfl)); (case hp => exact (Reps.none _ _)); (case hb => exact hb1); (case hs => exact hb1.size); intro v2 w2 ho2 hb2 hg2 hnew2; obtain ⟨A2, L2, c2, hv2⟩ : ∃ A L c, v2 = Value.slice A L c := (by obtain ⟨A, c, h⟩ := Kd.R_slice ho2; exact ⟨A, _, c, h⟩); subst hv2))
   have HO1 := qa ho1; have HO2 := qa ho2; obtain ⟨b2, hn2, hle2⟩ := hnew2
   have wn : w2.heap[w.heap.size]? = some (.cells #[.int .i64 a0] 3 (0, 0)) :=
    (hg2.block _ (Nat.lt_of_lt_of_le (blk_lt (Go.heap_alloc_last w (.cells #[.int .i64 a0] 3))) hg1.size) (by simp)).trans ((hg1.block _ (blk_lt (Go.heap_alloc_last w (.cells #[.int .i64 a0] 3))) (by simp)).trans (Go.heap_alloc_last w _))
   have z1 := qrb hb1.size hg2.size
   have ro : Kd.S k31 31 w2 w.heap.size (fun k_ => some k_ ≠ (Value.slice A2 L2 c2).ownBlock) (.slice A1 L1 c1) [] :=
    Kd.S_mono (Kd.S_grown (Kd.S_bound HO1.out) hg2 (fun k_ hk => by simp)) (fun k_ hk => by rw [hn2]; intro he; injection he with he; have := hk.2.2.1; omega)
   have b1 := qh hb2 (.cells #[.slice A1 L1 c1] 26); have b2' := qh b1 (.cells #[.slice A2 L2 c2] 29); have b3 := qh b2' (.cells #[.func (.func 45) #[] #[.pointer (some ⟨w.heap.size, 0, none⟩), .pointer (some ⟨w2.heap.size + 1, 0, none⟩), .pointer (some ⟨w2.heap.size, 0, none⟩), .pointer (some ⟨w2.heap.size + 1 + 1, 0, none⟩)]] 61)
   have hst : impl_FootingsOf.St w a0 w.heap.size (w2.heap.size + 1) w2.heap.size (w2.heap.size + 1 + 1) (((w2.alloc (.cells #[.slice A1 L1 c1] 26)).alloc (.cells #[.slice A2 L2 c2] 29)).alloc (.cells #[.func (.func 45) #[] #[.pointer (some ⟨w.heap.size, 0, none⟩), .pointer (some ⟨w2.heap.size + 1, 0, none⟩), .pointer (some ⟨w2.heap.size, 0, none⟩), .pointer (some ⟨w2.heap.size + 1 + 1, 0, none⟩)]] 61)) (.slice A2 L2 c2) (.slice A1 L1 c1) [] [] :=
    ⟨qk (qk (qk wn _) _) _, by
     have h := Go.heap_alloc_last (w2.alloc (.cells #[.slice A1 L1 c1] 26)) (.cells #[.slice A2 L2 c2] 29); have h' := qk h (.cells #[.func (.func 45) #[] #[.pointer (some ⟨w.heap.size, 0, none⟩), .pointer (some ⟨w2.heap.size + 1, 0, none⟩), .pointer (some ⟨w2.heap.size, 0, none⟩), .pointer (some ⟨w2.heap.size + 1 + 1, 0, none⟩)]] 61)
     simpa using h', qk (qk (Go.heap_alloc_last w2 _) _) _, by
     have h := Go.heap_alloc_last ((w2.alloc (.cells #[.slice A1 L1 c1] 26)).alloc (.cells #[.slice A2 L2 c2] 29)) (.cells #[.func (.func 45) #[] #[.pointer (some ⟨w.heap.size, 0, none⟩), .pointer (some ⟨w2.heap.size + 1, 0, none⟩), .pointer (some ⟨w2.heap.size, 0, none⟩), .pointer (some ⟨w2.heap.size + 1 + 1, 0, none⟩)]] 61)
     simpa using h, qx (qx (qx HO2.out _) _) _, Kd.S_alloc (Kd.S_alloc (Kd.S_alloc ro _) _) _, b3, by omega, by omega⟩
   have HST := qa hst; clear hst b1 b2' b3 ro ho1 ho2; have HLEN := qa (impl_FootingsOf.implF_len a0 h1 h4); generalize hgo : w2.heap.size = go at HST ⊢; generalize ((w2.alloc (.cells #[.slice A1 L1 c1] 26)).alloc (.cells #[.slice A2 L2 c2] 29)).alloc (.cells #[.func (.func 45) #[] #[.pointer (some ⟨w.heap.size, 0, none⟩), .pointer (some ⟨go + 1, 0, none⟩), .pointer (some ⟨go, 0, none⟩), .pointer (some ⟨go + 1 + 1, 0, none⟩)]] 61) = w3 at HST ⊢; have cr := qi HST.out.hr 0; simp only [List.getElem?_toArray, List.getElem?_cons_zero] at cr; clear hb1 hb2 hg1 hg2 wn hn2
   go_upto_region 7 with (first
    | (go_at_call 45; refine (impl_FootingsOf.rest_calls w a0 w.heap.size (go + 1) go (go + 1 + 1) h4 10 0 [] [] (.slice A2 L2 c2) (.slice A1 L1 c1) _ (by omega) (Int.le_refl _) (by omega) (by simp) (by have := HLEN.out; simp only [List.length_nil]; omega) HST.out).mono ?_; rintro e w4 ⟨rfl, vf4, vo4, hst4, hp4⟩; have HST4 := qa hst4; clear hst4 hp4))
   have co := qi HST4.out.ho 0; simp only [List.getElem?_toArray, List.getElem?_cons_zero] at co; clear cr; go_wp2; go_ret; exact ⟨_, rfl, by rw [HF.out]; exact Kd.S_mono HST4.out.ro (fun _ _ => trivial), HST4.out.hb⟩
  ·have HF := qa (show impl_FootingsOf.implF a0 = [] from if_neg (fun h => h4 h.2))
   have h4b : decide (a0 ≤ 4) = false := qr h4; go_enter Tryd.func14, Tryd.ntmps14
   go_wp2_with (first | go_in)
   go_ret; exact ⟨_, rfl, by rw [HF.out]; exact Kd.S_nil _ _ _ _ _, qh (qsb _ _) _⟩
 ·have HF := qa (show impl_FootingsOf.implF a0 = [] from if_neg (fun h => h1 h.1))
  have h1b : decide (1 ≤ a0) = false := qr h1; go_enter Tryd.func14, Tryd.ntmps14
  go_wp2_with (first | go_in)
  go_ret; exact ⟨_, rfl, by rw [HF.out]; exact Kd.S_nil _ _ _ _ _, qh (qsb _ _) _⟩
def slices_Equal_int_int.l0 : Nat → List Int → List Int → Int → Int → Option (Bool)
 | 0, _, _, _, _ => none
 | k + 1, x0, x1, x12, x13 => if x13 < x12 then (if 0 ≤ x13 then (if x13 < (x0.length : Int) then (if x13 < (x1.length : Int) then (if (rd x0 x13) = (rd x1 x13) then (slices_Equal_int_int.l0 k x0 x1 x12 (wrap64 (x13 + 1))) else (some false)) else (none)) else (none)) else (none)) else (some true)
def slices_Equal_int_int.f (k : Nat) (l0 : List Int) (l1 : List Int) : Option (Bool) := if (l0.length : Int) = (l1.length : Int) then (slices_Equal_int_int.l0 k l0 l1 (l0.length : Int) 0) else (some false)
theorem slices_Equal_int_int.calls (k : Nat) (A0 : Option Addr) (c0 : Nat) (l0 : List Int) (A1 : Option Addr) (c1 : Nat) (l1 : List Int) (r : Bool) (w : World) (hr0 : Kd.C (Kd.int .i64) w A0 l0.length l0) (hc0 : l0.length ≤ c0) (hr1 : Kd.C (Kd.int .i64) w A1 l1.length l1) (hc1 : l1.length ≤ c1) (h : slices_Equal_int_int.f k l0 l1 = some r) :
  Calls Tryd.prog 42 #[.slice A0 l0.length c0, .slice A1 l1.length c1] w fun e w' => e = .returned (.bool r) ∧ Drawn0 w w' := by
 have HR0 := qa hr0; have HC0 := qa hc0; clear hr0 hc0; have HR1 := qa hr1; have HC1 := qa hc1; clear hr1 hc1; have H := h; unfold slices_Equal_int_int.f at H; clear h
 by_cases c3 : (l0.length : Int) = (l1.length : Int)
 ·rw [if_pos c3] at H
  have c3b0 : ((l0.length : Int) == (l1.length : Int)) = true := ze c3; have c3b1 : ((l0.length : Int) != (l1.length : Int)) = false := zc c3
  have c3b2 : (l0.length == l1.length) = true := by first | simpa using c3 | (simp at c3 ⊢; omega)
  clear c3; have H' := qa H; clear H; go_enter Tryd.func42, Tryd.ntmps42; go_wp2
  repeat (go_quiet (fail); try go_wp2)
  go_loopg [13] k (fun kq v13 w' => ∃ (x13_1 : Int), v13 = .int .i64 x13_1 ∧ Aside0 (slices_Equal_int_int.l0 kq l0 l1 (l0.length : Int) x13_1 = some r) ∧ Aside0 (kq ≤ k) ∧ Drawn0 w w')
  case atStart => exact ⟨(0), (by first | rfl | (simp; done) | (simp [*]; done)), H', ⟨qqb _⟩, by repeat (first | exact Drawn0.refl _ | apply Drawn0.step)⟩
  case round =>
   clear H'; (try clear c1); (try clear p2); (try clear c3); (try clear c3b0); (try clear c3b1); (try clear c3b2); obtain ⟨x13_1, rfl, HA, HK1, ⟨m1, rfl⟩⟩ := hrel
   cases gk with
   | zero => exact absurd HA.out (by simp [slices_Equal_int_int.l0])
   | succ k1 =>
    have H := HA.out; clear HA; simp only [slices_Equal_int_int.l0] at H
    by_cases c4 : x13_1 < (l0.length : Int)
    ·rw [if_pos c4] at H
     have c4b0 : decide (x13_1 < (l0.length : Int)) = true := qq c4; clear c4
     by_cases c5 : 0 ≤ x13_1
     ·rw [if_pos c5] at H
      have c5b0 : decide (0 ≤ x13_1) = true := qq c5; clear c5
      by_cases c6 : x13_1 < (l0.length : Int)
      ·rw [if_pos c6] at H
       have c6b0 : decide (x13_1 < (l0.length : Int)) = true := qq c6; clear c6
       by_cases c7 : x13_1 < (l1.length : Int)
       ·rw [if_pos c7] at H
        have c7b0 : decide (x13_1 < (l1.length : Int)) = true := qq c7; clear c7
        by_cases c8 : (rd l0 x13_1) = (rd l1 x13_1)
        ·rw [if_pos c8] at H
         have c8b0 : ((rd l0 x13_1) == (rd l1 x13_1)) = true := ze c8; have c8b1 : ((rd l0 x13_1) != (rd l1 x13_1)) = false := zc c8; clear c8; have H' := qa H; clear H; have p276 : 0 ≤ (x13_1 : Int) := qm (by assumption); have q276 : x13_1 < (l0.length : Int) := qm (by assumption); obtain ⟨ad276, e276, hx276_0⟩ := Kd.at_int HR0.out x13_1 p276 q276; cases e276; replace p276 := qga p276; replace q276 := qga q276; have p277 : 0 ≤ (x13_1 : Int) := qm (by assumption); have q277 : x13_1 < (l1.length : Int) := qm (by assumption); obtain ⟨ad277, e277, hx277_0⟩ := Kd.at_int HR1.out x13_1 p277 q277; cases e277; replace p277 := qga p277; replace q277 := qga q277; go_wp2
         repeat (go_quiet (fail); try go_wp2)
         go_roundg k1
         case measure => have := HK1.out; omega
         case rel => exact ⟨(wrap64 (x13_1 + 1)), (by first | rfl | (simp; done) | (simp [*]; done)), H', ⟨by have := HK1.out; omega⟩, by repeat (first | exact Drawn0.refl _ | apply Drawn0.step)⟩
        ·rw [if_neg c8] at H
         have c8b0 : ((rd l0 x13_1) == (rd l1 x13_1)) = false := zd c8; have c8b1 : ((rd l0 x13_1) != (rd l1 x13_1)) = true := zf c8; obtain rfl := qia H; have p276 : 0 ≤ (x13_1 : Int) := qm (by assumption); have q276 : x13_1 < (l0.length : Int) := qm (by assumption); obtain ⟨ad276, e276, hx276_0⟩ := Kd.at_int HR0.out x13_1 p276 q276; cases e276; replace p276 := qga p276; replace q276 := qga q276; have p277 : 0 ≤ (x13_1 : Int) := qm (by assumption); have q277 : x13_1 < (l1.length : Int) := qm (by assumption); obtain ⟨ad277, e277, hx277_0⟩ := Kd.at_int HR1.out x13_1 p277 q277; cases e277; replace p277 := qga p277; replace q277 := qga q277; go_wp2
         repeat (go_quiet (fail); try go_wp2)
         go_ret; exact ⟨by first | rfl | (simp; done) | (simp [*]; done), by repeat (first | exact Drawn0.refl _ | apply Drawn0.step)⟩
       ·rw [if_neg c7] at H
        exact absurd H (by simp)
      ·rw [if_neg c6] at H
       exact absurd H (by simp)
     ·rw [if_neg c5] at H
      exact absurd H (by simp)
    ·rw [if_neg c4] at H
     have c4b0 : decide (x13_1 < (l0.length : Int)) = false := qr c4; clear c4; obtain rfl := qia H; go_wp2
     repeat (go_quiet (fail); try go_wp2)
     go_ret; exact ⟨by first | rfl | (simp; done) | (simp [*]; done), by repeat (first | exact Drawn0.refl _ | apply Drawn0.step)⟩
 ·rw [if_neg c3] at H
  have c3b0 : ((l0.length : Int) == (l1.length : Int)) = false := zd c3; have c3b1 : ((l0.length : Int) != (l1.length : Int)) = true := zf c3
  have c3b2 : (l0.length == l1.length) = false := by first | simpa using c3 | (simp at c3 ⊢; omega)
  obtain rfl := qia H; go_enter Tryd.func42, Tryd.ntmps42; go_wp2
  repeat (go_quiet (fail); try go_wp2)
  go_ret; exact ⟨by first | rfl | (simp; done) | (simp [*]; done), by repeat (first | exact Drawn0.refl _ | apply Drawn0.step)⟩
end Go.Proofs.YtkjpbhncgjhfeaaDoor.PFnFeet
