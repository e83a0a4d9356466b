-- written for this claim by a program of this session (wip/patch_print.py over the kit's print)
import Derived.Test.YtnaehnenhnfecaaRows
import Derived.Test.YtnaehnenhnfecaaOpen
import Derived.Test.YtnaehnenhnfecaaPFnExactWeightOfx1
import Derived.Test.YtnaehnenhnfecaaPureFnExactWeightOf
import Derived.WalkKit
import Derived.ProofKit
import Derived.OpenShut
import Derived.ShutString
import Derived.ChangeOld
import Derived.Below
import Derived.SizedLaws
import Derived.Test.YtnaehnenhnfecaaWSized
namespace Go.Proofs.Ytnaehnenhnfecaa.fnExactWeightOf
open Go.ChangeShapes Go.WideShapes Go.ChangeAt Go.RowKit Go.Proofs.Ytnaehnenhnfecaa.PFnExactWeightOf Go.Proofs.YtnaehnenhnfecaaW.PrintWords Go.Proofs.Ytnaehnenhnfecaa.Open
open Go.ChangeMaps (open_string shut_string)
set_option linter.unusedVariables false
theorem own : ownKnob Try.prog.godebug = none := by kernel_rfl
theorem laidOut : laidOutB Try.prog = true := by kernel_rfl
set_option maxRecDepth 100000 in
theorem lifted (os : Os) (started : os.Started) (H : Type) (enc : TypeId × Value → H) :
    ReturnsInHanded {} Try.checked os 4 .any (Rows.fnExactWeightOfSpec.pre6 enc Try.prog Try.f4 Rows.fnExactWeightOfRow.domain false) (Rows.fnExactWeightOfSpec.post enc Try.prog Try.f4 false true false false) := by
  refine returnsInHanded_of_change_sized (C := Try.checked) own started (by kernel_rfl) Try.func4
    (ChangeSpec.witness6 (enc := enc) (C := Try.checked) false ⟨#[], #[.agg #[.string ByteArray.empty, .string ByteArray.empty, .string ByteArray.empty]], []⟩ 8 (by kernel_rfl) (by kernel_rfl) (by kernel_rfl) (by kernel_rfl)) ?_
  intro W base args ds gs before hval0 hW hcnd hsz0 _
  have hval : ∀ (j : Nat) t v, Try.f4.params[j]? = some t → args[j]? = some v → Value.okWide Try.prog W .any base t v := hval0
  have hW' := hW
  obtain ⟨p, q, hA0, hV, rfl, hfz, hnd⟩ := hW
  have hA : DataW.TrodAll enc Try.prog W 0 (fun _ => true) true Try.f4.params.toList args.toList ds p := hA0
  rw [Try.params4] at hA hval
  obtain ⟨v0, vs0, d0, ds0, p0, q0, hargs, rfl, rfl, h0, r0⟩ := trodAll_cons hA
  obtain ⟨rfl, rfl, rfl⟩ := trodAll_nil r0
  obtain rfl : args = #[v0] := by cases args; simp_all
  obtain ⟨rfl, rfl⟩ := trodVars_none hV
  have hv0 := hval 0 24 v0 rfl rfl
  clear hval hval0 hA0
  have k0 := h0
  have lt0 : ∀ x ∈ p0, x.block < W.heap.size := by obtain ⟨m, hm⟩ := k0; exact DataW.trod_lt m _ _ _ hm
  obtain ⟨v0_0, v0_1, v0_2, y0_0, y0_1, y0_2, n0, hagg_, e0_0, e0_1, e0_2⟩ := open_agg3 Try.underlying24 (by kernel_rfl) (by kernel_rfl) hv0 h0
  subst hagg_
  clear hv0 h0
  obtain ⟨a0_0, hc_, _, w0_0⟩ := DataW.trod_string Try.underlying9 e0_0
  obtain rfl := (List.cons.inj hc_).1
  clear hc_
  have w0_0 : a0_0.size ≤ 9223372036854775807 := by unfold maxLen at w0_0; omega
  obtain ⟨a0_1, hc_, _, w0_1⟩ := DataW.trod_string Try.underlying9 e0_1
  obtain rfl := (List.cons.inj hc_).1
  clear hc_
  have w0_1 : a0_1.size ≤ 9223372036854775807 := by unfold maxLen at w0_1; omega
  obtain ⟨a0_2, hc_, _, w0_2⟩ := DataW.trod_string Try.underlying9 e0_2
  obtain rfl := (List.cons.inj hc_).1
  clear hc_
  have w0_2 : a0_2.size ≤ 9223372036854775807 := by unfold maxLen at w0_2; omega
  clear hsz0
  refine (PFnExactWeightOf.laws_FnExactWeightOf.walk Pure.FnExactWeightOf a0_0 a0_1 a0_2 W w0_0 w0_1 w0_2 ).mono fun e W' ⟨he, bel⟩ => ?_
  subst he
  exact ⟨_, rfl, _, _, _, [], _, [], hW', trodAll_mk1 (shut_bool Try.underlying4 _), (trodAll_cons_mk (Below.trod laidOut (by kernel_rfl) (of_decide_eq_true (by kernel_rfl)) k0 bel lt0) trodAll_mk0), rfl, bel.frame _, fun h => by cases h⟩
theorem over : Rows.fnExactWeightOfRow.holds Try.pinned (OpenSpec.ofChange Rows.fnExactWeightOfSpec) :=
  OpenClaim.holds_of_wide 4 Try.f4 rfl rfl rfl rfl rfl rfl rfl ⟨rfl, rfl, rfl, rfl, rfl⟩ rfl rfl rfl rfl rfl (by kernel_rfl) Try.func4 (by kernel_rfl)
    (of_decide_eq_true (by kernel_rfl)) (by unfold Func.isWrapper; first | (rw [if_pos (by decide +kernel)]; kernel_rfl) | (rw [if_neg (by decide +kernel)]; exact ⟨rfl, rfl⟩))
    (fun os started H enc _ => lifted os started H enc)
theorem proved : Rows.FnExactWeightOfSaid := over
end Go.Proofs.Ytnaehnenhnfecaa.fnExactWeightOf
namespace Go.Proofs.Ytnaehnenhnfecaa
/-- The row, under a short name, for the claim. -/
theorem fnExactWeightOf_holds : Rows.FnExactWeightOfSaid := fnExactWeightOf.proved
end Go.Proofs.Ytnaehnenhnfecaa
