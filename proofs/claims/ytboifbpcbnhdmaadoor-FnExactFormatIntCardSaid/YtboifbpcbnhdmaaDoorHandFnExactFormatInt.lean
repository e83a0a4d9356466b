import Derived.Test.YtboifbpcbnhdmaaDoorPFnExactFormatIntx
import Derived.Test.YtboifbpcbnhdmaaDoorShelfB
import Derived.Deep.WholeRow
import Derived.BigRegion
import Derived.IntWalk
import Derived.Lib.AppendIntMem
import Derived.Lib.LaidTab
namespace Go.Proofs.YtboifbpcbnhdmaaDoor.PFnExactFormatInt
open Go.RowKit Go.Proofs.YtboifbpcbnhdmaaDoorW.PrintWords Go.Proofs.YtboifbpcbnhdmaaDoorW.PrintLast Go.Proofs.YtboifbpcbnhdmaaDoorW.PrintMore
attribute [local go_sem] max2_int min2_int max_two min_two max_three min_three max_four min_four
set_option linter.unusedVariables false
set_option linter.unusedSimpArgs false
/-- What the plain law owes. -/
def Pure.Fmt : Prop := ∀ a0 : Int, (Lit.int .i64 a0).wf = true → ∃ k, spec_FormatInt.f k a0 = some ⟨(Lib.itoa a0).toArray⟩
set_option maxHeartbeats 8000000 in
set_option maxRecDepth 100000 in
theorem impl_FormatInt.all (a0 : Int) (w : World) (hb : -9223372036854775808 ≤ a0 ∧ a0 ≤ 9223372036854775807) (htab : Lib.TabIs Tryd.prog w "internal/strconv.uint64pow10" .u64 Lib.pow10Tab) :
    Calls Tryd.prog 7 #[.int .i64 a0] w fun e w' => e = .returned (.string ⟨(Lib.itoa a0).toArray⟩) ∧ Below w.heap.size w w' := by
  have HT := Aside0.mk htab
  have HW := Aside0.mk hb
  clear htab hb
  go_enter Tryd.func7, Tryd.ntmps7
  go_wp2_with (first | (go_at_call 15; refine (Go.Proofs.Tryd.strconv_Itoa a0 HW.out.1 HW.out.2 _ HT.out).mono ?_; rintro e w1 ⟨rfl, kk, os, rfl⟩))
  go_ret
  exact ⟨rfl, Lib.below_grow _ _ (Nat.le_refl _) _ _⟩
set_option maxHeartbeats 8000000 in
set_option maxRecDepth 100000 in
theorem laws_FnExactFormatInt.handwalk (P : Pure.Fmt) (a0 : Int) (w : World) (w0 : (Lit.int .i64 a0).wf = true) (htab : Lib.TabIs Tryd.prog w "internal/strconv.uint64pow10" .u64 Lib.pow10Tab) :
    Calls Tryd.prog 3 #[.int .i64 a0] w fun e w' => e = .returned (.bool true) ∧ Below w.heap.size w w' := by
  obtain ⟨k, h1⟩ := P a0 w0
  have H1 := Aside0.mk h1
  have HT := Aside0.mk (Lib.tabBelow_of_tabIs htab)
  have hb : -9223372036854775808 ≤ a0 ∧ a0 ≤ 9223372036854775807 := by
    have e1 : IntKind.i64.min = -9223372036854775808 := rfl
    have e2 : IntKind.i64.max = 9223372036854775807 := rfl
    simp [Lit.wf, e1, e2] at w0
    omega
  have HW := Aside0.mk hb
  clear h1 htab P w0 hb
  go_enter Tryd.func3, Tryd.ntmps3
  go_wp2_with (first
    | (go_at_call 6; refine (spec_FormatInt.calls k a0 _ _ H1.out).mono ?_; rintro e w1 ⟨rfl, hb1⟩; have HB1 := Aside0.mk hb1; clear hb1)
    | (go_at_call 7; refine (impl_FormatInt.all a0 _ HW.out (HT.out _ HB1.out)).mono ?_; rintro e w2 ⟨rfl, hb2⟩; have HB2 := Aside0.mk hb2; clear hb2))
  go_ret
  exact ⟨rfl, below_then HB1.out HB1.out.size HB2.out⟩
end Go.Proofs.YtboifbpcbnhdmaaDoor.PFnExactFormatInt
