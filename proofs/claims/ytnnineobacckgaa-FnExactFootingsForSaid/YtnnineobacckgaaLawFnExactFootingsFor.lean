/- The row of FnExactFootingsFor, told by a program of this session (wip/mkrowints.py). -/
import Derived.Test.YtnnineobacckgaaRows
import Derived.Test.YtnnineobacckgaaOpen
import Derived.Test.YtnnineobacckgaaHandFnExactFootingsFor
import Derived.Test.YtnnineobacckgaaPureFnExactFootingsFor
import Derived.WalkKit
import Derived.ProofKit
import Derived.OpenShut
import Derived.ShutString
import Derived.ChangeOld
import Derived.Below
import Derived.SizedLaws
import Derived.Test.YtnnineobacckgaaWSized
namespace Go.Proofs.Ytnnineobacckgaa.fnExactFootingsFor
open Go.ChangeShapes Go.WideShapes Go.ChangeAt Go.RowKit Go.Proofs.Ytnnineobacckgaa.PFnExactFootingsFor Go.Proofs.YtnnineobacckgaaW.PrintWords Go.Proofs.Ytnnineobacckgaa.Open
open Go.ChangeMaps (open_string shut_string)
set_option linter.unusedVariables false
theorem own : ownKnob Try.prog.godebug = none := by kernel_rfl
theorem laidOut : laidOutB Try.prog = true := by kernel_rfl
set_option maxRecDepth 100000 in
theorem el3 {H : Type} {enc : TypeId × Value → H} {w : World} {base : Nat} {spare : Nat → Bool} {held : Bool} (n : Nat) (cs : List Value) (y : DataW H × List MemPlace) (h : DataW.trod enc Try.prog w base spare held n 3 cs = some y) : ∃ z : Int, (Kd.int .i64).K w z cs ∧ (Lit.int .i64 z).wf = true := by
  obtain ⟨a, hc_, _, w0⟩ := DataW.trod_int Try.underlying3 h
  exact ⟨a, hc_, w0⟩
set_option maxRecDepth 100000 in
theorem lifted (os : Os) (started : os.Started) (H : Type) (enc : TypeId × Value → H) :
    ReturnsInHanded {} Try.checked os 4 .any (Rows.fnExactFootingsForSpec.pre6 enc Try.prog Try.f4 Rows.fnExactFootingsForRow.domain false) (Rows.fnExactFootingsForSpec.post enc Try.prog Try.f4 false true false false) := by
  refine returnsInHanded_of_change_sized (C := Try.checked) own started (by kernel_rfl) Try.func4
    (ChangeSpec.witness6 (enc := enc) (C := Try.checked) false ⟨#[], #[.slice none 0 0], []⟩ 8 (by kernel_rfl) (by kernel_rfl) (by kernel_rfl) (by kernel_rfl)) ?_
  intro W base args ds gs before hval0 hW hcnd hsz0 _
  have hval : ∀ (j : Nat) t v, Try.f4.params[j]? = some t → args[j]? = some v → Value.okWide Try.prog W .any base t v := hval0
  have hW' := hW
  obtain ⟨p, q, hA0, hV, rfl, hfz, hnd⟩ := hW
  have hA : DataW.TrodAll enc Try.prog W 0 (fun _ => true) true Try.f4.params.toList args.toList ds p := hA0
  rw [Try.params4] at hA hval
  obtain ⟨v0, vs0, d0, ds0, p0, q0, hargs, rfl, rfl, h0, r0⟩ := trodAll_cons hA
  obtain ⟨rfl, rfl, rfl⟩ := trodAll_nil r0
  obtain rfl : args = #[v0] := by cases args; simp_all
  obtain ⟨rfl, rfl⟩ := trodVars_none hV
  have hv0 := hval 0 27 v0 rfl rfl
  clear hval hval0 hA0
  obtain ⟨a0, len0, cap0, hsl_⟩ := okWide_slice Try.underlying27 hv0
  subst hsl_
  have k0 := h0
  have lt0 : ∀ x ∈ p0, x.block < W.heap.size := by obtain ⟨m, hm⟩ := k0; exact DataW.trod_lt m _ _ _ hm
  obtain ⟨fuel0, e0⟩ := h0
  obtain ⟨A0, c0, l0, hcv_, hc0, hm0, hr0, q0⟩ := rows_open (Kd.int .i64) (fun y_ => (Lit.int .i64 y_).wf = true) Try.underlying27 (by kernel_rfl) el3 (show DataW.trod enc Try.prog W 0 (fun _ => true) true fuel0 27 [Value.slice a0 len0 cap0] = _ from e0)
  rw [hcv_] at k0 hW' ⊢
  have w0 : l0.length ≤ 9223372036854775807 := by unfold maxLen at hm0; omega
  clear hsz0
  refine (PFnExactFootingsFor.laws_FnExactFootingsFor.walk Pure.FnExactFootingsFor A0 c0 l0 W w0 q0 hr0 hc0).mono fun e W' ⟨he, bel⟩ => ?_
  subst he
  exact ⟨_, rfl, _, _, _, [], _, [], hW', trodAll_mk1 (shut_bool Try.underlying4 _), (trodAll_cons_mk (Below.trod laidOut (by kernel_rfl) (of_decide_eq_true (by kernel_rfl)) k0 bel lt0) trodAll_mk0), rfl, bel.frame _, fun h => by cases h⟩
theorem over : Rows.fnExactFootingsForRow.holds Try.pinned (OpenSpec.ofChange Rows.fnExactFootingsForSpec) :=
  OpenClaim.holds_of_wide 4 Try.f4 rfl rfl rfl rfl rfl rfl rfl ⟨rfl, rfl, rfl, rfl, rfl⟩ rfl rfl rfl rfl rfl (by kernel_rfl) Try.func4 (by kernel_rfl)
    (of_decide_eq_true (by kernel_rfl)) (by unfold Func.isWrapper; first | (rw [if_pos (by decide +kernel)]; kernel_rfl) | (rw [if_neg (by decide +kernel)]; exact ⟨rfl, rfl⟩))
    (fun os started H enc _ => lifted os started H enc)
theorem proved : Rows.FnExactFootingsForSaid := over
#print axioms proved
end Go.Proofs.Ytnnineobacckgaa.fnExactFootingsFor
namespace Go.Proofs.Ytnnineobacckgaa
/-- The row, under a short name, for the claim. -/
theorem fnExactFootingsFor_holds : Rows.FnExactFootingsForSaid := fnExactFootingsFor.proved
end Go.Proofs.Ytnnineobacckgaa
