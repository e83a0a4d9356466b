-- written for this claim by a program of this session (wip/patch_print.py over the kit's print)
import Derived.Test.YtomkfofflpdknaaRows
import Derived.Test.YtomkfofflpdknaaOpen
import Derived.Test.YtomkfofflpdknaaPFnExactFormatCandidatex5
import Derived.Test.YtomkfofflpdknaaPureFnExactFormatCandidate
import Derived.WalkKit
import Derived.ProofKit
import Derived.OpenShut
import Derived.ShutString
import Derived.ChangeOld
import Derived.Below
import Derived.SizedLaws
import Derived.Test.YtomkfofflpdknaaWSized
namespace Go.Proofs.Ytomkfofflpdknaa.fnExactFormatCandidate
open Go.ChangeShapes Go.WideShapes Go.ChangeAt Go.RowKit Go.Proofs.Ytomkfofflpdknaa.PFnExactFormatCandidate Go.Proofs.YtomkfofflpdknaaW.PrintWords Go.Proofs.Ytomkfofflpdknaa.Open
open Go.ChangeMaps (open_string shut_string)
set_option linter.unusedVariables false
theorem own : ownKnob Try.prog.godebug = none := by kernel_rfl
theorem laidOut : laidOutB Try.prog = true := by kernel_rfl
set_option maxRecDepth 100000 in
theorem el105 {H : Type} {enc : TypeId × Value → H} {w : World} {base : Nat} {spare : Nat → Bool} {held : Bool} (n : Nat) (cs : List Value) (y : DataW H × List MemPlace) (h : DataW.trod enc Try.prog w base spare held n 105 cs = some y) : ∃ z : S105, k105.K w z cs ∧ ((Lit.int .u8 z.f0).wf = true ∧ (Lit.int .u8 z.f1).wf = true) := by
  obtain ⟨xs, n', _, _, hl, hx, hf⟩ := DataW.trod_struct Try.underlying105 h
  have hC : Try.prog.cellsOf 105 = 2 := by kernel_rfl
  rw [hC] at hl
  match cs, hl with
  | [b0, b1], _ =>
  match xs, hx with
  | [y0, y1], _ =>
  have o0 : Try.prog.cellsOf 5 = 1 := by kernel_rfl
  have e0 : DataW.trod enc Try.prog w base spare held n' 5 (([b0, b1].drop 0).take (Try.prog.cellsOf 5)) = some y0 := hf 0 _ rfl
  rw [o0] at e0
  have e0 : DataW.trod enc Try.prog w base spare held n' 5 [b0] = some y0 := e0
  have o1 : Try.prog.cellsOf 5 = 1 := by kernel_rfl
  have e1 : DataW.trod enc Try.prog w base spare held n' 5 (([b0, b1].drop 1).take (Try.prog.cellsOf 5)) = some y1 := hf 1 _ rfl
  rw [o1] at e1
  have e1 : DataW.trod enc Try.prog w base spare held n' 5 [b1] = some y1 := e1
  obtain ⟨a0, hc_, _, w0⟩ := DataW.trod_int Try.underlying5 e0
  obtain rfl := (List.cons.inj hc_).1
  clear hc_
  obtain ⟨a1, hc_, _, w1⟩ := DataW.trod_int Try.underlying5 e1
  obtain rfl := (List.cons.inj hc_).1
  clear hc_
  exact ⟨⟨a0, a1⟩, ⟨[.int .u8 a0], [.int .u8 a1], rfl, rfl, rfl⟩, ⟨w0, w1⟩⟩
set_option maxRecDepth 100000 in
theorem lifted (os : Os) (started : os.Started) (H : Type) (enc : TypeId × Value → H) :
    ReturnsInHanded {} Try.checked os 10 .any (Rows.fnExactFormatCandidateSpec.pre6 enc Try.prog Try.f10 Rows.fnExactFormatCandidateRow.domain false) (Rows.fnExactFormatCandidateSpec.post enc Try.prog Try.f10 false true false false) := by
  refine returnsInHanded_of_change_sized (C := Try.checked) own started (by kernel_rfl) Try.func10
    (ChangeSpec.witness6 (enc := enc) (C := Try.checked) false ⟨#[], #[.agg #[.slice none 0 0]], []⟩ 8 (by kernel_rfl) (by kernel_rfl) (by kernel_rfl) (by kernel_rfl)) ?_
  intro W base args ds gs before hval0 hW hcnd hsz0 _
  have hval : ∀ (j : Nat) t v, Try.f10.params[j]? = some t → args[j]? = some v → Value.okWide Try.prog W .any base t v := hval0
  have hW' := hW
  obtain ⟨p, q, hA0, hV, rfl, hfz, hnd⟩ := hW
  have hA : DataW.TrodAll enc Try.prog W 0 (fun _ => true) true Try.f10.params.toList args.toList ds p := hA0
  rw [Try.params10] at hA hval
  obtain ⟨v0, vs0, d0, ds0, p0, q0, hargs, rfl, rfl, h0, r0⟩ := trodAll_cons hA
  obtain ⟨rfl, rfl, rfl⟩ := trodAll_nil r0
  obtain rfl : args = #[v0] := by cases args; simp_all
  obtain ⟨rfl, rfl⟩ := trodVars_none hV
  have hv0 := hval 0 44 v0 rfl rfl
  clear hval hval0 hA0
  have k0 := h0
  have lt0 : ∀ x ∈ p0, x.block < W.heap.size := by obtain ⟨m, hm⟩ := k0; exact DataW.trod_lt m _ _ _ hm
  obtain ⟨v0_0, y0_0, n0, hagg_, e0_0⟩ := open_agg1 Try.underlying44 (by kernel_rfl) (by kernel_rfl) hv0 h0
  subst hagg_
  clear hv0 h0
  obtain ⟨A0_0, c0_0, l0_0, hcv_, hc0_0, hm0_0, hr0_0, q0_0⟩ := rows_open k105 (fun y_ => (Lit.int .u8 y_.f0).wf = true ∧ (Lit.int .u8 y_.f1).wf = true) Try.underlying42 (by kernel_rfl) el105 e0_0
  subst hcv_
  have w0_0 : l0_0.length ≤ 9223372036854775807 := by unfold maxLen at hm0_0; omega
  clear hsz0
  refine (PFnExactFormatCandidate.laws_FnExactFormatCandidate.walk Pure.FnExactFormatCandidate A0_0 c0_0 l0_0 W w0_0 q0_0 hr0_0 hc0_0).mono fun e W' ⟨he, bel⟩ => ?_
  subst he
  exact ⟨_, rfl, _, _, _, [], _, [], hW', trodAll_mk1 (shut_bool Try.underlying4 _), (trodAll_cons_mk (Below.trod laidOut (by kernel_rfl) (of_decide_eq_true (by kernel_rfl)) k0 bel lt0) trodAll_mk0), rfl, bel.frame _, fun h => by cases h⟩
theorem over : Rows.fnExactFormatCandidateRow.holds Try.pinned (OpenSpec.ofChange Rows.fnExactFormatCandidateSpec) :=
  OpenClaim.holds_of_wide 10 Try.f10 rfl rfl rfl rfl rfl rfl rfl ⟨rfl, rfl, rfl, rfl, rfl⟩ rfl rfl rfl rfl rfl (by kernel_rfl) Try.func10 (by kernel_rfl)
    (of_decide_eq_true (by kernel_rfl)) (by unfold Func.isWrapper; first | (rw [if_pos (by decide +kernel)]; kernel_rfl) | (rw [if_neg (by decide +kernel)]; exact ⟨rfl, rfl⟩))
    (fun os started H enc _ => lifted os started H enc)
theorem proved : Rows.FnExactFormatCandidateSaid := over
end Go.Proofs.Ytomkfofflpdknaa.fnExactFormatCandidate
namespace Go.Proofs.Ytomkfofflpdknaa
/-- The row, under a short name, for the claim. -/
theorem fnExactFormatCandidate_holds : Rows.FnExactFormatCandidateSaid := fnExactFormatCandidate.proved
end Go.Proofs.Ytomkfofflpdknaa
