/-
  No cell of these rows narrows 'for every input' (looked for: loops, veiled, ifaces, maps, wideKeys, modest, calm, conditions, laid).
  DERIVED. THE GIVEN ROWS OF THIS SEAT. 12 by the template 'for every input the law returns true; each argument reads behind the call as it read before'; 0 by the template 'total and deterministic' (their statements: YtmahcallcjijlaaTotals.lean).
  GIVEN WITH THE SEED: the statements are not yours to turn. If you find one false, say at which input.
  Laid BY PROGRAM, IN A SANDBOX (cutbox-rows.mjs): the forced cells as the released guide's own fill.sh prints them over the translation 5278a5c57b8f9421… (all of the seat's roots in one cut). By AI agents, Wed Nov 11 2026. No macro, syntax, notation, axiom, sorry.
-/
import Derived.Test.YtmahcallcjijlaaChecked
import GoSem.Claim
import GoSem.ClaimJoined
import GoSem.ClaimMapViews
import Derived.JoinedTies
import Derived.KernelRfl
namespace Go.Proofs.Ytmahcallcjijlaa
/- THE CELL 'sum', in the pinned program and in every row, IS THE sha256 OF THE DUMP (.gsa) THAT YtmahcallcjijlaaProg.lean LOADS. Nothing in Lean hashes anything: it is a label: what it is worth is what the hold of that sum in a sandbox is worth. -/
noncomputable def Try.pinned : Pinned := { name := "ytmahcallcjijlaa", sum := "5278a5c57b8f94214a714f7520bd7beadafc8f202f7887daf306a2f2e3e3e3e3", checked := Try.checked }
namespace Rows
def none {H : Type} : Left H := { results := [], args := [] }

/-- 'laws.FnExactEqualFootings': WHATEVER THE INPUT: true; the input reads as it did. -/
def fnExactEqualFootingsSpec : ChangeSpec := { name := "fnExactEqualFootings", fn := fun _ => fun
  | [d1, d2] => { results := [.lit (.bool true)], args := [d1, d2] }
  | _ => none }
def fnExactEqualFootingsRow : OpenClaim := { program := "ytmahcallcjijlaa", sum := "5278a5c57b8f94214a714f7520bd7beadafc8f202f7887daf306a2f2e3e3e3e3", func := "loop.example/g02080/laws.FnExactEqualFootings", spec := "fnExactEqualFootings", apart := false }
def FnExactEqualFootingsSaid : Prop := fnExactEqualFootingsRow.holds Try.pinned (OpenSpec.ofChange fnExactEqualFootingsSpec)

/-- ITS FALSE NEIGHBOUR: 'it returns false'. Refute it at one input. -/
def fnExactEqualFootingsWrong : ChangeSpec := { name := "fnExactEqualFootings", fn := fun _ => fun
  | [d1, d2] => { results := [.lit (.bool false)], args := [d1, d2] }
  | _ => none }
def FnExactEqualFootingsWrongFalsely : Prop := fnExactEqualFootingsRow.holds Try.pinned (OpenSpec.ofChange fnExactEqualFootingsWrong)

/-- 'laws.FnExactIsFooting': WHATEVER THE INPUT: true; the input reads as it did. -/
def fnExactIsFootingSpec : ChangeSpec := { name := "fnExactIsFooting", fn := fun _ => fun
  | [d] => { results := [.lit (.bool true)], args := [d] }
  | _ => none }
def fnExactIsFootingRow : OpenClaim := { program := "ytmahcallcjijlaa", sum := "5278a5c57b8f94214a714f7520bd7beadafc8f202f7887daf306a2f2e3e3e3e3", func := "loop.example/g02080/laws.FnExactIsFooting", spec := "fnExactIsFooting", apart := false }
def FnExactIsFootingSaid : Prop := fnExactIsFootingRow.holds Try.pinned (OpenSpec.ofChange fnExactIsFootingSpec)

/-- ITS FALSE NEIGHBOUR: 'it returns false'. Refute it at one input. -/
def fnExactIsFootingWrong : ChangeSpec := { name := "fnExactIsFooting", fn := fun _ => fun
  | [d] => { results := [.lit (.bool false)], args := [d] }
  | _ => none }
def FnExactIsFootingWrongFalsely : Prop := fnExactIsFootingRow.holds Try.pinned (OpenSpec.ofChange fnExactIsFootingWrong)

/-- 'laws.FnExactFaithfulCandidate': WHATEVER THE INPUT: true; the input reads as it did. -/
def fnExactFaithfulCandidateSpec : ChangeSpec := { name := "fnExactFaithfulCandidate", fn := fun _ => fun
  | [d] => { results := [.lit (.bool true)], args := [d] }
  | _ => none }
def fnExactFaithfulCandidateRow : OpenClaim := { program := "ytmahcallcjijlaa", sum := "5278a5c57b8f94214a714f7520bd7beadafc8f202f7887daf306a2f2e3e3e3e3", func := "loop.example/g02080/laws.FnExactFaithfulCandidate", spec := "fnExactFaithfulCandidate", inPlace := ["internal/bytealg.IndexByteString"], apart := false }
def FnExactFaithfulCandidateSaid : Prop := fnExactFaithfulCandidateRow.holds Try.pinned (OpenSpec.ofChange fnExactFaithfulCandidateSpec)

/-- ITS FALSE NEIGHBOUR: 'it returns false'. Refute it at one input. -/
def fnExactFaithfulCandidateWrong : ChangeSpec := { name := "fnExactFaithfulCandidate", fn := fun _ => fun
  | [d] => { results := [.lit (.bool false)], args := [d] }
  | _ => none }
def FnExactFaithfulCandidateWrongFalsely : Prop := fnExactFaithfulCandidateRow.holds Try.pinned (OpenSpec.ofChange fnExactFaithfulCandidateWrong)

/-- 'laws.FnExactSharedFeatures': WHATEVER THE INPUT: true; the input reads as it did. -/
def fnExactSharedFeaturesSpec : ChangeSpec := { name := "fnExactSharedFeatures", fn := fun _ => fun
  | [d] => { results := [.lit (.bool true)], args := [d] }
  | _ => none }
def fnExactSharedFeaturesRow : OpenClaim := { program := "ytmahcallcjijlaa", sum := "5278a5c57b8f94214a714f7520bd7beadafc8f202f7887daf306a2f2e3e3e3e3", func := "loop.example/g02080/laws.FnExactSharedFeatures", spec := "fnExactSharedFeatures", inPlace := ["internal/bytealg.IndexByteString"], apart := false }
def FnExactSharedFeaturesSaid : Prop := fnExactSharedFeaturesRow.holds Try.pinned (OpenSpec.ofChange fnExactSharedFeaturesSpec)

/-- ITS FALSE NEIGHBOUR: 'it returns false'. Refute it at one input. -/
def fnExactSharedFeaturesWrong : ChangeSpec := { name := "fnExactSharedFeatures", fn := fun _ => fun
  | [d] => { results := [.lit (.bool false)], args := [d] }
  | _ => none }
def FnExactSharedFeaturesWrongFalsely : Prop := fnExactSharedFeaturesRow.holds Try.pinned (OpenSpec.ofChange fnExactSharedFeaturesWrong)

/-- 'laws.FnExactCountSyllables': WHATEVER THE INPUT: true; the input reads as it did. -/
def fnExactCountSyllablesSpec : ChangeSpec := { name := "fnExactCountSyllables", fn := fun _ => fun
  | [d] => { results := [.lit (.bool true)], args := [d] }
  | _ => none }
def fnExactCountSyllablesRow : OpenClaim := { program := "ytmahcallcjijlaa", sum := "5278a5c57b8f94214a714f7520bd7beadafc8f202f7887daf306a2f2e3e3e3e3", func := "loop.example/g02080/laws.FnExactCountSyllables", spec := "fnExactCountSyllables", inPlace := ["internal/bytealg.IndexByteString"], apart := false }
def FnExactCountSyllablesSaid : Prop := fnExactCountSyllablesRow.holds Try.pinned (OpenSpec.ofChange fnExactCountSyllablesSpec)

/-- ITS FALSE NEIGHBOUR: 'it returns false'. Refute it at one input. -/
def fnExactCountSyllablesWrong : ChangeSpec := { name := "fnExactCountSyllables", fn := fun _ => fun
  | [d] => { results := [.lit (.bool false)], args := [d] }
  | _ => none }
def FnExactCountSyllablesWrongFalsely : Prop := fnExactCountSyllablesRow.holds Try.pinned (OpenSpec.ofChange fnExactCountSyllablesWrong)

/-- 'laws.FnExactNaturalClass': WHATEVER THE INPUT: true; the input reads as it did. -/
def fnExactNaturalClassSpec : ChangeSpec := { name := "fnExactNaturalClass", fn := fun _ => fun
  | [d] => { results := [.lit (.bool true)], args := [d] }
  | _ => none }
def fnExactNaturalClassRow : OpenClaim := { program := "ytmahcallcjijlaa", sum := "5278a5c57b8f94214a714f7520bd7beadafc8f202f7887daf306a2f2e3e3e3e3", func := "loop.example/g02080/laws.FnExactNaturalClass", spec := "fnExactNaturalClass", inPlace := ["internal/bytealg.IndexByteString"], apart := false }
def FnExactNaturalClassSaid : Prop := fnExactNaturalClassRow.holds Try.pinned (OpenSpec.ofChange fnExactNaturalClassSpec)

/-- ITS FALSE NEIGHBOUR: 'it returns false'. Refute it at one input. -/
def fnExactNaturalClassWrong : ChangeSpec := { name := "fnExactNaturalClass", fn := fun _ => fun
  | [d] => { results := [.lit (.bool false)], args := [d] }
  | _ => none }
def FnExactNaturalClassWrongFalsely : Prop := fnExactNaturalClassRow.holds Try.pinned (OpenSpec.ofChange fnExactNaturalClassWrong)

/-- 'laws.FnExactIsNaturalClass': WHATEVER THE INPUT: true; the input reads as it did. -/
def fnExactIsNaturalClassSpec : ChangeSpec := { name := "fnExactIsNaturalClass", fn := fun _ => fun
  | [d] => { results := [.lit (.bool true)], args := [d] }
  | _ => none }
def fnExactIsNaturalClassRow : OpenClaim := { program := "ytmahcallcjijlaa", sum := "5278a5c57b8f94214a714f7520bd7beadafc8f202f7887daf306a2f2e3e3e3e3", func := "loop.example/g02080/laws.FnExactIsNaturalClass", spec := "fnExactIsNaturalClass", inPlace := ["internal/bytealg.IndexByteString"], apart := false }
def FnExactIsNaturalClassSaid : Prop := fnExactIsNaturalClassRow.holds Try.pinned (OpenSpec.ofChange fnExactIsNaturalClassSpec)

/-- ITS FALSE NEIGHBOUR: 'it returns false'. Refute it at one input. -/
def fnExactIsNaturalClassWrong : ChangeSpec := { name := "fnExactIsNaturalClass", fn := fun _ => fun
  | [d] => { results := [.lit (.bool false)], args := [d] }
  | _ => none }
def FnExactIsNaturalClassWrongFalsely : Prop := fnExactIsNaturalClassRow.holds Try.pinned (OpenSpec.ofChange fnExactIsNaturalClassWrong)

/-- 'laws.FnExactCountCandidates': WHATEVER THE INPUT: true; the input reads as it did. -/
def fnExactCountCandidatesSpec : ChangeSpec := { name := "fnExactCountCandidates", fn := fun _ => fun
  | [d] => { results := [.lit (.bool true)], args := [d] }
  | _ => none }
def fnExactCountCandidatesRow : OpenClaim := { program := "ytmahcallcjijlaa", sum := "5278a5c57b8f94214a714f7520bd7beadafc8f202f7887daf306a2f2e3e3e3e3", func := "loop.example/g02080/laws.FnExactCountCandidates", spec := "fnExactCountCandidates", inPlace := ["internal/bytealg.IndexByteString"], unfollowed := true, recurses := true, apart := false }
def FnExactCountCandidatesSaid : Prop := fnExactCountCandidatesRow.holds Try.pinned (OpenSpec.ofChange fnExactCountCandidatesSpec)

/-- ITS FALSE NEIGHBOUR: 'it returns false'. Refute it at one input. -/
def fnExactCountCandidatesWrong : ChangeSpec := { name := "fnExactCountCandidates", fn := fun _ => fun
  | [d] => { results := [.lit (.bool false)], args := [d] }
  | _ => none }
def FnExactCountCandidatesWrongFalsely : Prop := fnExactCountCandidatesRow.holds Try.pinned (OpenSpec.ofChange fnExactCountCandidatesWrong)

/-- 'laws.FnExactNeighboursOf': WHATEVER THE INPUT: true; the input reads as it did. -/
def fnExactNeighboursOfSpec : ChangeSpec := { name := "fnExactNeighboursOf", fn := fun _ => fun
  | [d] => { results := [.lit (.bool true)], args := [d] }
  | _ => none }
def fnExactNeighboursOfRow : OpenClaim := { program := "ytmahcallcjijlaa", sum := "5278a5c57b8f94214a714f7520bd7beadafc8f202f7887daf306a2f2e3e3e3e3", func := "loop.example/g02080/laws.FnExactNeighboursOf", spec := "fnExactNeighboursOf", inPlace := ["internal/bytealg.IndexByteString"], apart := false }
def FnExactNeighboursOfSaid : Prop := fnExactNeighboursOfRow.holds Try.pinned (OpenSpec.ofChange fnExactNeighboursOfSpec)

/-- ITS FALSE NEIGHBOUR: 'it returns false'. Refute it at one input. -/
def fnExactNeighboursOfWrong : ChangeSpec := { name := "fnExactNeighboursOf", fn := fun _ => fun
  | [d] => { results := [.lit (.bool false)], args := [d] }
  | _ => none }
def FnExactNeighboursOfWrongFalsely : Prop := fnExactNeighboursOfRow.holds Try.pinned (OpenSpec.ofChange fnExactNeighboursOfWrong)

/-- 'laws.FnExactIsRegular': WHATEVER THE INPUT: true; the input reads as it did. -/
def fnExactIsRegularSpec : ChangeSpec := { name := "fnExactIsRegular", fn := fun _ => fun
  | [d] => { results := [.lit (.bool true)], args := [d] }
  | _ => none }
def fnExactIsRegularRow : OpenClaim := { program := "ytmahcallcjijlaa", sum := "5278a5c57b8f94214a714f7520bd7beadafc8f202f7887daf306a2f2e3e3e3e3", func := "loop.example/g02080/laws.FnExactIsRegular", spec := "fnExactIsRegular", inPlace := ["internal/bytealg.IndexByteString"], apart := false }
def FnExactIsRegularSaid : Prop := fnExactIsRegularRow.holds Try.pinned (OpenSpec.ofChange fnExactIsRegularSpec)

/-- ITS FALSE NEIGHBOUR: 'it returns false'. Refute it at one input. -/
def fnExactIsRegularWrong : ChangeSpec := { name := "fnExactIsRegular", fn := fun _ => fun
  | [d] => { results := [.lit (.bool false)], args := [d] }
  | _ => none }
def FnExactIsRegularWrongFalsely : Prop := fnExactIsRegularRow.holds Try.pinned (OpenSpec.ofChange fnExactIsRegularWrong)

/-- 'laws.FnExactFormatSyllables': WHATEVER THE INPUT: true; the input reads as it did. -/
def fnExactFormatSyllablesSpec : ChangeSpec := { name := "fnExactFormatSyllables", fn := fun _ => fun
  | [d] => { results := [.lit (.bool true)], args := [d] }
  | _ => none }
def fnExactFormatSyllablesRow : OpenClaim := { program := "ytmahcallcjijlaa", sum := "5278a5c57b8f94214a714f7520bd7beadafc8f202f7887daf306a2f2e3e3e3e3", func := "loop.example/g02080/laws.FnExactFormatSyllables", spec := "fnExactFormatSyllables", inPlace := ["internal/abi.NoEscape", "internal/bytealg.MakeNoZero"], apart := false }
def FnExactFormatSyllablesSaid : Prop := fnExactFormatSyllablesRow.holds Try.pinned (OpenSpec.ofChange fnExactFormatSyllablesSpec)

/-- ITS FALSE NEIGHBOUR: 'it returns false'. Refute it at one input. -/
def fnExactFormatSyllablesWrong : ChangeSpec := { name := "fnExactFormatSyllables", fn := fun _ => fun
  | [d] => { results := [.lit (.bool false)], args := [d] }
  | _ => none }
def FnExactFormatSyllablesWrongFalsely : Prop := fnExactFormatSyllablesRow.holds Try.pinned (OpenSpec.ofChange fnExactFormatSyllablesWrong)

/-- 'laws.FnExactStressesOf': WHATEVER THE INPUT: true; the input reads as it did. -/
def fnExactStressesOfSpec : ChangeSpec := { name := "fnExactStressesOf", fn := fun _ => fun
  | [d] => { results := [.lit (.bool true)], args := [d] }
  | _ => none }
def fnExactStressesOfRow : OpenClaim := { program := "ytmahcallcjijlaa", sum := "5278a5c57b8f94214a714f7520bd7beadafc8f202f7887daf306a2f2e3e3e3e3", func := "loop.example/g02080/laws.FnExactStressesOf", spec := "fnExactStressesOf", apart := false }
def FnExactStressesOfSaid : Prop := fnExactStressesOfRow.holds Try.pinned (OpenSpec.ofChange fnExactStressesOfSpec)

/-- ITS FALSE NEIGHBOUR: 'it returns false'. Refute it at one input. -/
def fnExactStressesOfWrong : ChangeSpec := { name := "fnExactStressesOf", fn := fun _ => fun
  | [d] => { results := [.lit (.bool false)], args := [d] }
  | _ => none }
def FnExactStressesOfWrongFalsely : Prop := fnExactStressesOfRow.holds Try.pinned (OpenSpec.ofChange fnExactStressesOfWrong)

/- THE SECOND FORM. 'bulk': how many values and letters a reading holds, each counted each time it is reached (what is shared counts as often as it is met; a slice's spare places count too). A statement '..UptoSaid' is the law's where the arguments, and the package variables that the reading takes, are together of bulk at most 1048576: NARROWER than '..Said'. Prove '..Said' where nothing that the law and all that it calls make is longer than what came in: it says more and counts as full. Else prove '..UptoSaid'. A law counts once. -/
mutual
def uptoBulk {H : Type} : DataW H → Nat
  | .lit (.string bytes) => bytes.length + 1
  | .lit _ => 1
  | .nil => 1
  | .ptr d => uptoBulk d + 1
  | .slice elems spare => uptoBulkAll elems + uptoBulkAll spare + 1
  | .agg parts => uptoBulkAll parts + 1
  | .iface _ d => uptoBulk d + 1
  | .map entries => uptoBulkEntries entries + 1
  | .held _ => 1
def uptoBulkAll {H : Type} : List (DataW H) → Nat
  | [] => 0
  | d :: r => uptoBulk d + uptoBulkAll r
def uptoBulkEntries {H : Type} : List (Lit × DataW H) → Nat
  | [] => 0
  | x :: r => uptoBulkEntry x + uptoBulkEntries r
def uptoBulkEntry {H : Type} : Lit × DataW H → Nat
  | (.string bytes, d) => bytes.length + uptoBulk d + 1
  | (_, d) => uptoBulk d + 1
 end
def uptoSmall : (H : Type) → List (DataW H) → Bool := fun _ ds => decide (uptoBulkAll ds ≤ 1048576)
def OpenSpec.upto (s : _root_.Go.ChangeSpec) : _root_.Go.OpenSpec := { _root_.Go.OpenSpec.ofChange s with cond := some uptoSmall }

/-- 'laws.FnExactEqualFootings', WHERE WHAT IT READS IS OF BULK AT MOST 1048576: true; the input reads as it did. -/
def fnExactEqualFootingsUptoRow : OpenClaim := { program := "ytmahcallcjijlaa", sum := "5278a5c57b8f94214a714f7520bd7beadafc8f202f7887daf306a2f2e3e3e3e3", func := "loop.example/g02080/laws.FnExactEqualFootings", spec := "fnExactEqualFootings", apart := false, narrowed := true }
def FnExactEqualFootingsUptoSaid : Prop := fnExactEqualFootingsUptoRow.holds Try.pinned (OpenSpec.upto fnExactEqualFootingsSpec)

/-- 'laws.FnExactIsFooting', WHERE WHAT IT READS IS OF BULK AT MOST 1048576: true; the input reads as it did. -/
def fnExactIsFootingUptoRow : OpenClaim := { program := "ytmahcallcjijlaa", sum := "5278a5c57b8f94214a714f7520bd7beadafc8f202f7887daf306a2f2e3e3e3e3", func := "loop.example/g02080/laws.FnExactIsFooting", spec := "fnExactIsFooting", apart := false, narrowed := true }
def FnExactIsFootingUptoSaid : Prop := fnExactIsFootingUptoRow.holds Try.pinned (OpenSpec.upto fnExactIsFootingSpec)

/-- 'laws.FnExactFaithfulCandidate', WHERE WHAT IT READS IS OF BULK AT MOST 1048576: true; the input reads as it did. -/
def fnExactFaithfulCandidateUptoRow : OpenClaim := { program := "ytmahcallcjijlaa", sum := "5278a5c57b8f94214a714f7520bd7beadafc8f202f7887daf306a2f2e3e3e3e3", func := "loop.example/g02080/laws.FnExactFaithfulCandidate", spec := "fnExactFaithfulCandidate", inPlace := ["internal/bytealg.IndexByteString"], apart := false, narrowed := true }
def FnExactFaithfulCandidateUptoSaid : Prop := fnExactFaithfulCandidateUptoRow.holds Try.pinned (OpenSpec.upto fnExactFaithfulCandidateSpec)

/-- 'laws.FnExactSharedFeatures', WHERE WHAT IT READS IS OF BULK AT MOST 1048576: true; the input reads as it did. -/
def fnExactSharedFeaturesUptoRow : OpenClaim := { program := "ytmahcallcjijlaa", sum := "5278a5c57b8f94214a714f7520bd7beadafc8f202f7887daf306a2f2e3e3e3e3", func := "loop.example/g02080/laws.FnExactSharedFeatures", spec := "fnExactSharedFeatures", inPlace := ["internal/bytealg.IndexByteString"], apart := false, narrowed := true }
def FnExactSharedFeaturesUptoSaid : Prop := fnExactSharedFeaturesUptoRow.holds Try.pinned (OpenSpec.upto fnExactSharedFeaturesSpec)

/-- 'laws.FnExactCountSyllables', WHERE WHAT IT READS IS OF BULK AT MOST 1048576: true; the input reads as it did. -/
def fnExactCountSyllablesUptoRow : OpenClaim := { program := "ytmahcallcjijlaa", sum := "5278a5c57b8f94214a714f7520bd7beadafc8f202f7887daf306a2f2e3e3e3e3", func := "loop.example/g02080/laws.FnExactCountSyllables", spec := "fnExactCountSyllables", inPlace := ["internal/bytealg.IndexByteString"], apart := false, narrowed := true }
def FnExactCountSyllablesUptoSaid : Prop := fnExactCountSyllablesUptoRow.holds Try.pinned (OpenSpec.upto fnExactCountSyllablesSpec)

/-- 'laws.FnExactNaturalClass', WHERE WHAT IT READS IS OF BULK AT MOST 1048576: true; the input reads as it did. -/
def fnExactNaturalClassUptoRow : OpenClaim := { program := "ytmahcallcjijlaa", sum := "5278a5c57b8f94214a714f7520bd7beadafc8f202f7887daf306a2f2e3e3e3e3", func := "loop.example/g02080/laws.FnExactNaturalClass", spec := "fnExactNaturalClass", inPlace := ["internal/bytealg.IndexByteString"], apart := false, narrowed := true }
def FnExactNaturalClassUptoSaid : Prop := fnExactNaturalClassUptoRow.holds Try.pinned (OpenSpec.upto fnExactNaturalClassSpec)

/-- 'laws.FnExactIsNaturalClass', WHERE WHAT IT READS IS OF BULK AT MOST 1048576: true; the input reads as it did. -/
def fnExactIsNaturalClassUptoRow : OpenClaim := { program := "ytmahcallcjijlaa", sum := "5278a5c57b8f94214a714f7520bd7beadafc8f202f7887daf306a2f2e3e3e3e3", func := "loop.example/g02080/laws.FnExactIsNaturalClass", spec := "fnExactIsNaturalClass", inPlace := ["internal/bytealg.IndexByteString"], apart := false, narrowed := true }
def FnExactIsNaturalClassUptoSaid : Prop := fnExactIsNaturalClassUptoRow.holds Try.pinned (OpenSpec.upto fnExactIsNaturalClassSpec)

/-- 'laws.FnExactCountCandidates', WHERE WHAT IT READS IS OF BULK AT MOST 1048576: true; the input reads as it did. -/
def fnExactCountCandidatesUptoRow : OpenClaim := { program := "ytmahcallcjijlaa", sum := "5278a5c57b8f94214a714f7520bd7beadafc8f202f7887daf306a2f2e3e3e3e3", func := "loop.example/g02080/laws.FnExactCountCandidates", spec := "fnExactCountCandidates", inPlace := ["internal/bytealg.IndexByteString"], unfollowed := true, recurses := true, apart := false, narrowed := true }
def FnExactCountCandidatesUptoSaid : Prop := fnExactCountCandidatesUptoRow.holds Try.pinned (OpenSpec.upto fnExactCountCandidatesSpec)

/-- 'laws.FnExactNeighboursOf', WHERE WHAT IT READS IS OF BULK AT MOST 1048576: true; the input reads as it did. -/
def fnExactNeighboursOfUptoRow : OpenClaim := { program := "ytmahcallcjijlaa", sum := "5278a5c57b8f94214a714f7520bd7beadafc8f202f7887daf306a2f2e3e3e3e3", func := "loop.example/g02080/laws.FnExactNeighboursOf", spec := "fnExactNeighboursOf", inPlace := ["internal/bytealg.IndexByteString"], apart := false, narrowed := true }
def FnExactNeighboursOfUptoSaid : Prop := fnExactNeighboursOfUptoRow.holds Try.pinned (OpenSpec.upto fnExactNeighboursOfSpec)

/-- 'laws.FnExactIsRegular', WHERE WHAT IT READS IS OF BULK AT MOST 1048576: true; the input reads as it did. -/
def fnExactIsRegularUptoRow : OpenClaim := { program := "ytmahcallcjijlaa", sum := "5278a5c57b8f94214a714f7520bd7beadafc8f202f7887daf306a2f2e3e3e3e3", func := "loop.example/g02080/laws.FnExactIsRegular", spec := "fnExactIsRegular", inPlace := ["internal/bytealg.IndexByteString"], apart := false, narrowed := true }
def FnExactIsRegularUptoSaid : Prop := fnExactIsRegularUptoRow.holds Try.pinned (OpenSpec.upto fnExactIsRegularSpec)

/-- 'laws.FnExactFormatSyllables', WHERE WHAT IT READS IS OF BULK AT MOST 1048576: true; the input reads as it did. -/
def fnExactFormatSyllablesUptoRow : OpenClaim := { program := "ytmahcallcjijlaa", sum := "5278a5c57b8f94214a714f7520bd7beadafc8f202f7887daf306a2f2e3e3e3e3", func := "loop.example/g02080/laws.FnExactFormatSyllables", spec := "fnExactFormatSyllables", inPlace := ["internal/abi.NoEscape", "internal/bytealg.MakeNoZero"], apart := false, narrowed := true }
def FnExactFormatSyllablesUptoSaid : Prop := fnExactFormatSyllablesUptoRow.holds Try.pinned (OpenSpec.upto fnExactFormatSyllablesSpec)

/-- 'laws.FnExactStressesOf', WHERE WHAT IT READS IS OF BULK AT MOST 1048576: true; the input reads as it did. -/
def fnExactStressesOfUptoRow : OpenClaim := { program := "ytmahcallcjijlaa", sum := "5278a5c57b8f94214a714f7520bd7beadafc8f202f7887daf306a2f2e3e3e3e3", func := "loop.example/g02080/laws.FnExactStressesOf", spec := "fnExactStressesOf", apart := false, narrowed := true }
def FnExactStressesOfUptoSaid : Prop := fnExactStressesOfUptoRow.holds Try.pinned (OpenSpec.upto fnExactStressesOfSpec)

end Rows
end Go.Proofs.Ytmahcallcjijlaa
