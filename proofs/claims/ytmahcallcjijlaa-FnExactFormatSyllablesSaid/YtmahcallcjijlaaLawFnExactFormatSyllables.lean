-- written for this claim by a program of this session (wip/patch_print.py over the kit's print)
import Derived.Test.YtmahcallcjijlaaRows
import Derived.Test.YtmahcallcjijlaaOpen
import Derived.Test.YtmahcallcjijlaaPFnExactFormatSyllablesx2
import Derived.Test.YtmahcallcjijlaaPureFnExactFormatSyllables
import Derived.WalkKit
import Derived.ProofKit
import Derived.OpenShut
import Derived.ShutString
import Derived.ChangeOld
import Derived.Below
import Derived.SizedLaws
import Derived.Test.YtmahcallcjijlaaWSized
namespace Go.Proofs.Ytmahcallcjijlaa.fnExactFormatSyllables
open Go.ChangeShapes Go.WideShapes Go.ChangeAt Go.RowKit Go.Proofs.Ytmahcallcjijlaa.PFnExactFormatSyllables Go.Proofs.YtmahcallcjijlaaW.PrintWords Go.Proofs.Ytmahcallcjijlaa.Open
open Go.ChangeMaps (open_string shut_string)
set_option linter.unusedVariables false
theorem own : ownKnob Try.prog.godebug = none := by kernel_rfl
theorem laidOut : laidOutB Try.prog = true := by kernel_rfl
set_option maxRecDepth 100000 in
theorem el81 {H : Type} {enc : TypeId × Value → H} {w : World} {base : Nat} {spare : Nat → Bool} {held : Bool} (n : Nat) (cs : List Value) (y : DataW H × List MemPlace) (h : DataW.trod enc Try.prog w base spare held n 81 cs = some y) : ∃ z : S81, k81.K w z cs ∧ (z.f0.size ≤ 9223372036854775807 ∧ z.f1.size ≤ 9223372036854775807 ∧ z.f2.size ≤ 9223372036854775807) := by
  obtain ⟨xs, n', _, _, hl, hx, hf⟩ := DataW.trod_struct Try.underlying81 h
  have hC : Try.prog.cellsOf 81 = 3 := by kernel_rfl
  rw [hC] at hl
  match cs, hl with
  | [b0, b1, b2], _ =>
  match xs, hx with
  | [y0, y1, y2], _ =>
  have o0 : Try.prog.cellsOf 9 = 1 := by kernel_rfl
  have e0 : DataW.trod enc Try.prog w base spare held n' 9 (([b0, b1, b2].drop 0).take (Try.prog.cellsOf 9)) = some y0 := hf 0 _ rfl
  rw [o0] at e0
  have e0 : DataW.trod enc Try.prog w base spare held n' 9 [b0] = some y0 := e0
  have o1 : Try.prog.cellsOf 9 = 1 := by kernel_rfl
  have e1 : DataW.trod enc Try.prog w base spare held n' 9 (([b0, b1, b2].drop 1).take (Try.prog.cellsOf 9)) = some y1 := hf 1 _ rfl
  rw [o1] at e1
  have e1 : DataW.trod enc Try.prog w base spare held n' 9 [b1] = some y1 := e1
  have o2 : Try.prog.cellsOf 9 = 1 := by kernel_rfl
  have e2 : DataW.trod enc Try.prog w base spare held n' 9 (([b0, b1, b2].drop 2).take (Try.prog.cellsOf 9)) = some y2 := hf 2 _ rfl
  rw [o2] at e2
  have e2 : DataW.trod enc Try.prog w base spare held n' 9 [b2] = some y2 := e2
  obtain ⟨a0, hc_, _, w0⟩ := DataW.trod_string Try.underlying9 e0
  obtain rfl := (List.cons.inj hc_).1
  clear hc_
  obtain ⟨a1, hc_, _, w1⟩ := DataW.trod_string Try.underlying9 e1
  obtain rfl := (List.cons.inj hc_).1
  clear hc_
  obtain ⟨a2, hc_, _, w2⟩ := DataW.trod_string Try.underlying9 e2
  obtain rfl := (List.cons.inj hc_).1
  clear hc_
  exact ⟨⟨a0, a1, a2⟩, ⟨[.string a0], [.string a1, .string a2], rfl, rfl, ⟨[.string a1], [.string a2], rfl, rfl, rfl⟩⟩, ⟨w0, w1, w2⟩⟩
set_option maxRecDepth 100000 in
theorem lifted (os : Os) (started : os.Started) (H : Type) (enc : TypeId × Value → H) :
    ReturnsInHanded {} Try.checked os 13 .any (Rows.fnExactFormatSyllablesSpec.pre6 enc Try.prog Try.f13 Rows.fnExactFormatSyllablesRow.domain false) (Rows.fnExactFormatSyllablesSpec.post enc Try.prog Try.f13 false true false false) := by
  refine returnsInHanded_of_change_sized (C := Try.checked) own started (by kernel_rfl) Try.func13
    (ChangeSpec.witness6 (enc := enc) (C := Try.checked) false ⟨#[], #[.slice none 0 0], []⟩ 8 (by kernel_rfl) (by kernel_rfl) (by kernel_rfl) (by kernel_rfl)) ?_
  intro W base args ds gs before hval0 hW hcnd hsz0 _
  have hval : ∀ (j : Nat) t v, Try.f13.params[j]? = some t → args[j]? = some v → Value.okWide Try.prog W .any base t v := hval0
  have hW' := hW
  obtain ⟨p, q, hA0, hV, rfl, hfz, hnd⟩ := hW
  have hA : DataW.TrodAll enc Try.prog W 0 (fun _ => true) true Try.f13.params.toList args.toList ds p := hA0
  rw [Try.params13] at hA hval
  obtain ⟨v0, vs0, d0, ds0, p0, q0, hargs, rfl, rfl, h0, r0⟩ := trodAll_cons hA
  obtain ⟨rfl, rfl, rfl⟩ := trodAll_nil r0
  obtain rfl : args = #[v0] := by cases args; simp_all
  obtain ⟨rfl, rfl⟩ := trodVars_none hV
  have hv0 := hval 0 52 v0 rfl rfl
  clear hval hval0 hA0
  obtain ⟨a0, len0, cap0, hsl_⟩ := okWide_slice Try.underlying52 hv0
  subst hsl_
  have k0 := h0
  have lt0 : ∀ x ∈ p0, x.block < W.heap.size := by obtain ⟨m, hm⟩ := k0; exact DataW.trod_lt m _ _ _ hm
  obtain ⟨fuel0, e0⟩ := h0
  obtain ⟨A0, c0, l0, hcv_, hc0, hm0, hr0, q0⟩ := rows_open k81 (fun y_ => y_.f0.size ≤ 9223372036854775807 ∧ y_.f1.size ≤ 9223372036854775807 ∧ y_.f2.size ≤ 9223372036854775807) Try.underlying52 (by kernel_rfl) el81 (show DataW.trod enc Try.prog W 0 (fun _ => true) true fuel0 52 [Value.slice a0 len0 cap0] = _ from e0)
  rw [hcv_] at k0 hW' ⊢
  have w0 : l0.length ≤ 9223372036854775807 := by unfold maxLen at hm0; omega
  clear hsz0
  refine (PFnExactFormatSyllables.laws_FnExactFormatSyllables.walk Pure.FnExactFormatSyllables A0 c0 l0 W w0 q0 hr0 hc0).mono fun e W' ⟨he, bel⟩ => ?_
  subst he
  exact ⟨_, rfl, _, _, _, [], _, [], hW', trodAll_mk1 (shut_bool Try.underlying4 _), (trodAll_cons_mk (Below.trod laidOut (by kernel_rfl) (of_decide_eq_true (by kernel_rfl)) k0 bel lt0) trodAll_mk0), rfl, bel.frame _, fun h => by cases h⟩
theorem over : Rows.fnExactFormatSyllablesRow.holds Try.pinned (OpenSpec.ofChange Rows.fnExactFormatSyllablesSpec) :=
  OpenClaim.holds_of_wide 13 Try.f13 rfl rfl rfl rfl rfl rfl rfl ⟨rfl, rfl, rfl, rfl, rfl⟩ rfl rfl rfl rfl rfl (by kernel_rfl) Try.func13 (by kernel_rfl)
    (of_decide_eq_true (by kernel_rfl)) (by unfold Func.isWrapper; first | (rw [if_pos (by decide +kernel)]; kernel_rfl) | (rw [if_neg (by decide +kernel)]; exact ⟨rfl, rfl⟩))
    (fun os started H enc _ => lifted os started H enc)
theorem proved : Rows.FnExactFormatSyllablesSaid := over
end Go.Proofs.Ytmahcallcjijlaa.fnExactFormatSyllables
namespace Go.Proofs.Ytmahcallcjijlaa
/-- The row, under a short name, for the claim. -/
theorem fnExactFormatSyllables_holds : Rows.FnExactFormatSyllablesSaid := fnExactFormatSyllables.proved
end Go.Proofs.Ytmahcallcjijlaa
