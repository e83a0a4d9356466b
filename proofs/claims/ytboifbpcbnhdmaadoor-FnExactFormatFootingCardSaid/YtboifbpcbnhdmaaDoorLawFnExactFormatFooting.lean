-- written for this claim by a program of this session (wip/patch_print.py over the kit's print)
import Derived.Test.YtboifbpcbnhdmaaDoorRows
import Derived.Test.YtboifbpcbnhdmaaDoorCards
import Derived.Test.YtboifbpcbnhdmaaDoorTie
import Derived.Test.YtboifbpcbnhdmaaDoorLaid
import Derived.SevenTiedAt
import Derived.Test.YtboifbpcbnhdmaaDoorOpen
import Derived.Test.YtboifbpcbnhdmaaDoorPFnExactFormatFootingx6
import Derived.Test.YtboifbpcbnhdmaaDoorPureFnExactFormatFooting
import Derived.WalkKit
import Derived.ProofKit
import Derived.OpenShut
import Derived.ShutString
import Derived.ChangeOld
import Derived.Below
import Derived.SizedLaws
import Derived.Test.YtboifbpcbnhdmaaDoorWSized
namespace Go.Proofs.YtboifbpcbnhdmaaDoor.fnExactFormatFooting
open Go.ChangeShapes Go.WideShapes Go.ChangeAt Go.RowKit Go.Proofs.YtboifbpcbnhdmaaDoor.PFnExactFormatFooting Go.Proofs.YtboifbpcbnhdmaaDoorW.PrintWords Go.Proofs.YtboifbpcbnhdmaaDoor.Open
open Go.ChangeMaps (open_string shut_string)
set_option linter.unusedVariables false
theorem own : ownKnob Tryd.prog.godebug = none := by kernel_rfl
theorem laidOut : laidOutB Tryd.prog = true := by kernel_rfl
set_option maxRecDepth 100000 in
theorem el53 {H : Type} {enc : TypeId × Value → H} {w : World} {base : Nat} {spare : Nat → Bool} {held : Bool} (n : Nat) (cs : List Value) (y : DataW H × List MemPlace) (h : DataW.trod enc Tryd.prog w base spare held n 53 cs = some y) : ∃ z : S53, k53.K w z cs ∧ ((Lit.int .i64 z.f0).wf = true ∧ (Lit.int .i64 z.f1).wf = true ∧ (Lit.int .i64 z.f2).wf = true) := by
  obtain ⟨xs, n', _, _, hl, hx, hf⟩ := DataW.trod_struct Tryd.underlying53 h
  have hC : Tryd.prog.cellsOf 53 = 3 := by kernel_rfl
  rw [hC] at hl
  match cs, hl with
  | [b0, b1, b2], _ =>
  match xs, hx with
  | [y0, y1, y2], _ =>
  have o0 : Tryd.prog.cellsOf 3 = 1 := by kernel_rfl
  have e0 : DataW.trod enc Tryd.prog w base spare held n' 3 (([b0, b1, b2].drop 0).take (Tryd.prog.cellsOf 3)) = some y0 := hf 0 _ rfl
  rw [o0] at e0
  have e0 : DataW.trod enc Tryd.prog w base spare held n' 3 [b0] = some y0 := e0
  have o1 : Tryd.prog.cellsOf 3 = 1 := by kernel_rfl
  have e1 : DataW.trod enc Tryd.prog w base spare held n' 3 (([b0, b1, b2].drop 1).take (Tryd.prog.cellsOf 3)) = some y1 := hf 1 _ rfl
  rw [o1] at e1
  have e1 : DataW.trod enc Tryd.prog w base spare held n' 3 [b1] = some y1 := e1
  have o2 : Tryd.prog.cellsOf 3 = 1 := by kernel_rfl
  have e2 : DataW.trod enc Tryd.prog w base spare held n' 3 (([b0, b1, b2].drop 2).take (Tryd.prog.cellsOf 3)) = some y2 := hf 2 _ rfl
  rw [o2] at e2
  have e2 : DataW.trod enc Tryd.prog w base spare held n' 3 [b2] = some y2 := e2
  obtain ⟨a0, hc_, _, w0⟩ := DataW.trod_int Tryd.underlying3 e0
  obtain rfl := (List.cons.inj hc_).1
  clear hc_
  obtain ⟨a1, hc_, _, w1⟩ := DataW.trod_int Tryd.underlying3 e1
  obtain rfl := (List.cons.inj hc_).1
  clear hc_
  obtain ⟨a2, hc_, _, w2⟩ := DataW.trod_int Tryd.underlying3 e2
  obtain rfl := (List.cons.inj hc_).1
  clear hc_
  exact ⟨⟨a0, a1, a2⟩, ⟨[.int .i64 a0], [.int .i64 a1, .int .i64 a2], rfl, rfl, ⟨[.int .i64 a1], [.int .i64 a2], rfl, rfl, rfl⟩⟩, ⟨w0, w1, w2⟩⟩
set_option maxRecDepth 100000 in
theorem lifted (os : Os) (started : os.Started) (H : Type) (enc : TypeId × Value → H) :
    ReturnsInHanded {} Tryd.checked os 4 .any (fun w args => (Rows.fnExactFormatFootingSpec.pre enc Tryd.prog Tryd.f4 Rows.fnExactFormatFootingRow.domain false w args ∧ laidMet Tryd.prog Laid.laid3 w) ∧ sizedMet enc Tryd.prog Tryd.f4 (OpenSpec.ofChange Rows.fnExactFormatFootingSpec) false w args) (Rows.fnExactFormatFootingSpec.post enc Tryd.prog Tryd.f4 false true false false) := by
  refine returnsInHanded_of_change_and (C := Tryd.checked) (X := fun w _ => laidMet Tryd.prog Laid.laid3 w) (fun _ _ _ hh h => h.of_heap hh) own started (by kernel_rfl) Tryd.func4
    (ChangeSpec.witness_at (enc := enc) (C := Tryd.checked) (os := os) (X := fun w _ => laidMet Tryd.prog Laid.laid3 w) false (Laid.laidWorld os) #[.agg #[.int .i64 0, .slice none 0 0, .int .i64 0]] 8 rfl (by kernel_rfl) (by kernel_rfl) (by kernel_rfl) (by kernel_rfl) (by kernel_rfl) (Laid.laidWorld_met os _)) ?_
  intro W base args ds gs before hval0 hW hcnd hsz0 hL _
  have hval : ∀ (j : Nat) t v, Tryd.f4.params[j]? = some t → args[j]? = some v → Value.okWide Tryd.prog W .any base t v := hval0
  have hW' := hW
  obtain ⟨p, q, hA0, hV, rfl, hfz, hnd⟩ := hW
  have hA : DataW.TrodAll enc Tryd.prog W 0 (fun _ => true) true Tryd.f4.params.toList args.toList ds p := hA0
  rw [Tryd.params4] at hA hval
  obtain ⟨v0, vs0, d0, ds0, p0, q0, hargs, rfl, rfl, h0, r0⟩ := trodAll_cons hA
  obtain ⟨rfl, rfl, rfl⟩ := trodAll_nil r0
  obtain rfl : args = #[v0] := by cases args; simp_all
  obtain ⟨rfl, rfl⟩ := trodVars_none hV
  have hv0 := hval 0 26 v0 rfl rfl
  clear hval hval0 hA0
  have k0 := h0
  have lt0 : ∀ x ∈ p0, x.block < W.heap.size := by obtain ⟨m, hm⟩ := k0; exact DataW.trod_lt m _ _ _ hm
  obtain ⟨v0_0, v0_1, v0_2, y0_0, y0_1, y0_2, n0, hagg_, e0_0, e0_1, e0_2⟩ := open_agg3 Tryd.underlying26 (by kernel_rfl) (by kernel_rfl) hv0 h0
  subst hagg_
  clear hv0 h0
  obtain ⟨a0_0, hc_, _, w0_0⟩ := DataW.trod_int Tryd.underlying3 e0_0
  obtain rfl := (List.cons.inj hc_).1
  clear hc_
  obtain ⟨A0_1, c0_1, l0_1, hcv_, hc0_1, hm0_1, hr0_1, q0_1⟩ := rows_open k53 (fun y_ => (Lit.int .i64 y_.f0).wf = true ∧ (Lit.int .i64 y_.f1).wf = true ∧ (Lit.int .i64 y_.f2).wf = true) Tryd.underlying24 (by kernel_rfl) el53 e0_1
  subst hcv_
  have w0_1 : l0_1.length ≤ 9223372036854775807 := by unfold maxLen at hm0_1; omega
  obtain ⟨a0_2, hc_, _, w0_2⟩ := DataW.trod_int Tryd.underlying3 e0_2
  obtain rfl := (List.cons.inj hc_).1
  clear hc_
  clear hsz0
  refine (PFnExactFormatFooting.laws_FnExactFormatFooting.walk Pure.FnExactFormatFooting a0_0 A0_1 c0_1 l0_1 a0_2 W w0_0 w0_1 q0_1 w0_2 hr0_1 hc0_1).mono fun e W' ⟨he, bel⟩ => ?_
  subst he
  exact ⟨_, rfl, _, _, _, [], _, [], hW', trodAll_mk1 (shut_bool Tryd.underlying4 _), (trodAll_cons_mk (Below.trod laidOut (by kernel_rfl) (of_decide_eq_true (by kernel_rfl)) k0 bel lt0) trodAll_mk0), rfl, bel.frame _, fun h => by cases h⟩
theorem over : Rows.fnExactFormatFootingRow.holds Tryd.pinned (OpenSpec.ofChange Rows.fnExactFormatFootingSpec) :=
  OpenClaim.holds_of_wide 4 Tryd.f4 rfl rfl rfl rfl rfl rfl rfl ⟨rfl, rfl, rfl, rfl, rfl⟩ rfl rfl rfl rfl rfl (by kernel_rfl) Tryd.func4 (by kernel_rfl)
    (of_decide_eq_true (by kernel_rfl)) (by unfold Func.isWrapper; first | (rw [if_pos (by decide +kernel)]; kernel_rfl) | (rw [if_neg (by decide +kernel)]; exact ⟨rfl, rfl⟩))
    (fun os started H enc _ => lifted os started H enc)
theorem proved : Rows.FnExactFormatFootingSaid := over
end Go.Proofs.YtboifbpcbnhdmaaDoor.fnExactFormatFooting
namespace Go.Proofs.YtboifbpcbnhdmaaDoor
/-- The row, under a short name, for the claim. -/
theorem fnExactFormatFooting_holds : Rows.FnExactFormatFootingSaid := fnExactFormatFooting.proved
/-- The tied card: the row's proof, and its tie to the program's text (given). -/
theorem fnExactFormatFooting_card : Rows.FnExactFormatFootingCardSaid :=
  Claim7.holds_tied_plain_at .later [] [.data, .data, .data] true (true, "c26e907963eee2aa6566c6524e0b23579119483a50f97471b0d48fe5a0570af4") true
    fnExactFormatFooting.proved (fun _ h => by cases h) (by kernel_rfl) (fun _ h => by cases h) fnExactFormatFooting_row_tie rfl ⟨rfl, rfl⟩ (by kernel_rfl) rfl
    (fun f fn hf hfn => by
      obtain rfl : f = 4 := Option.some.inj ((show Tryd.prog.funcNamed "loop.example/g02080/laws.FnExactFormatFooting" = some 4 by kernel_rfl).symm.trans hf) |>.symm
      obtain rfl : fn = Tryd.f4 := (Option.some.inj (Tryd.func4.symm.trans hfn)).symm
      exact ⟨by kernel_rfl, fun j t ht => by
        rw [Tryd.params4] at ht
        have h3 : t = 26 := by
          rcases j with _ | j
          · simpa using ht.symm
          · simp at ht
        subst h3
        exact (show Tryd.prog.wantsStandIn 26 = false by kernel_rfl)⟩)
    (by kernel_rfl)
end Go.Proofs.YtboifbpcbnhdmaaDoor
