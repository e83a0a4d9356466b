/-
  No cell of these rows narrows 'for every input' (looked for: loops, veiled, ifaces, maps, wideKeys, modest, calm, conditions, laid).
  DERIVED. THE GIVEN ROWS OF THIS SEAT. 12 by the template 'for every input the law returns true; each argument reads behind the call as it read before'; 0 by the template 'total and deterministic' (their statements: YthocpjoimipjdaaTotals.lean).
  GIVEN WITH THE SEED: the statements are not yours to turn. If you find one false, say at which input.
  Laid BY PROGRAM, IN A SANDBOX (cutbox-rows.mjs): the forced cells as the released guide's own fill.sh prints them over the translation d66b17fe30e61a61… (all of the seat's roots in one cut). By AI agents, Wed Nov 11 2026. No macro, syntax, notation, axiom, sorry.
-/
import Derived.Test.YthocpjoimipjdaaChecked
import GoSem.Claim
import GoSem.ClaimJoined
import GoSem.ClaimMapViews
import Derived.JoinedTies
import Derived.KernelRfl
namespace Go.Proofs.Ythocpjoimipjdaa
/- THE CELL 'sum', in the pinned program and in every row, IS THE sha256 OF THE DUMP (.gsa) THAT YthocpjoimipjdaaProg.lean LOADS. Nothing in Lean hashes anything: it is a label: what it is worth is what the hold of that sum in a sandbox is worth. -/
noncomputable def Try.pinned : Pinned := { name := "ythocpjoimipjdaa", sum := "d66b17fe30e61a61f48273ab9ab05319978d3517e1f79e5af36c1b9bd6aceda3", checked := Try.checked }
namespace Rows
def none {H : Type} : Left H := { results := [], args := [] }

/-- 'laws.FnExactConstants': WHATEVER THE INPUT: true; the input reads as it did. -/
def fnExactConstantsSpec : ChangeSpec := { name := "fnExactConstants", fn := fun _ => fun
  | [] => { results := [.lit (.bool true)], args := [] }
  | _ => none }
def fnExactConstantsRow : OpenClaim := { program := "ythocpjoimipjdaa", sum := "d66b17fe30e61a61f48273ab9ab05319978d3517e1f79e5af36c1b9bd6aceda3", func := "loop.example/g02080/laws.FnExactConstants", spec := "fnExactConstants", apart := false }
def FnExactConstantsSaid : Prop := fnExactConstantsRow.holds Try.pinned (OpenSpec.ofChange fnExactConstantsSpec)

/-- ITS FALSE NEIGHBOUR: 'it returns false'. Refute it at one input. -/
def fnExactConstantsWrong : ChangeSpec := { name := "fnExactConstants", fn := fun _ => fun
  | [] => { results := [.lit (.bool false)], args := [] }
  | _ => none }
def FnExactConstantsWrongFalsely : Prop := fnExactConstantsRow.holds Try.pinned (OpenSpec.ofChange fnExactConstantsWrong)

/-- 'laws.FnExactIsObstruent': WHATEVER THE INPUT: true; the input reads as it did. -/
def fnExactIsObstruentSpec : ChangeSpec := { name := "fnExactIsObstruent", fn := fun _ => fun
  | [d] => { results := [.lit (.bool true)], args := [d] }
  | _ => none }
def fnExactIsObstruentRow : OpenClaim := { program := "ythocpjoimipjdaa", sum := "d66b17fe30e61a61f48273ab9ab05319978d3517e1f79e5af36c1b9bd6aceda3", func := "loop.example/g02080/laws.FnExactIsObstruent", spec := "fnExactIsObstruent", inPlace := ["internal/bytealg.IndexByteString"], apart := false }
def FnExactIsObstruentSaid : Prop := fnExactIsObstruentRow.holds Try.pinned (OpenSpec.ofChange fnExactIsObstruentSpec)

/-- ITS FALSE NEIGHBOUR: 'it returns false'. Refute it at one input. -/
def fnExactIsObstruentWrong : ChangeSpec := { name := "fnExactIsObstruent", fn := fun _ => fun
  | [d] => { results := [.lit (.bool false)], args := [d] }
  | _ => none }
def FnExactIsObstruentWrongFalsely : Prop := fnExactIsObstruentRow.holds Try.pinned (OpenSpec.ofChange fnExactIsObstruentWrong)

/-- 'laws.FnExactReverseForm': WHATEVER THE INPUT: true; the input reads as it did. -/
def fnExactReverseFormSpec : ChangeSpec := { name := "fnExactReverseForm", fn := fun _ => fun
  | [d] => { results := [.lit (.bool true)], args := [d] }
  | _ => none }
def fnExactReverseFormRow : OpenClaim := { program := "ythocpjoimipjdaa", sum := "d66b17fe30e61a61f48273ab9ab05319978d3517e1f79e5af36c1b9bd6aceda3", func := "loop.example/g02080/laws.FnExactReverseForm", spec := "fnExactReverseForm", apart := false }
def FnExactReverseFormSaid : Prop := fnExactReverseFormRow.holds Try.pinned (OpenSpec.ofChange fnExactReverseFormSpec)

/-- ITS FALSE NEIGHBOUR: 'it returns false'. Refute it at one input. -/
def fnExactReverseFormWrong : ChangeSpec := { name := "fnExactReverseForm", fn := fun _ => fun
  | [d] => { results := [.lit (.bool false)], args := [d] }
  | _ => none }
def FnExactReverseFormWrongFalsely : Prop := fnExactReverseFormRow.holds Try.pinned (OpenSpec.ofChange fnExactReverseFormWrong)

/-- 'laws.FnExactIsSound': WHATEVER THE INPUT: true; the input reads as it did. -/
def fnExactIsSoundSpec : ChangeSpec := { name := "fnExactIsSound", fn := fun _ => fun
  | [d] => { results := [.lit (.bool true)], args := [d] }
  | _ => none }
def fnExactIsSoundRow : OpenClaim := { program := "ythocpjoimipjdaa", sum := "d66b17fe30e61a61f48273ab9ab05319978d3517e1f79e5af36c1b9bd6aceda3", func := "loop.example/g02080/laws.FnExactIsSound", spec := "fnExactIsSound", inPlace := ["internal/bytealg.IndexByteString"], apart := false }
def FnExactIsSoundSaid : Prop := fnExactIsSoundRow.holds Try.pinned (OpenSpec.ofChange fnExactIsSoundSpec)

/-- ITS FALSE NEIGHBOUR: 'it returns false'. Refute it at one input. -/
def fnExactIsSoundWrong : ChangeSpec := { name := "fnExactIsSound", fn := fun _ => fun
  | [d] => { results := [.lit (.bool false)], args := [d] }
  | _ => none }
def FnExactIsSoundWrongFalsely : Prop := fnExactIsSoundRow.holds Try.pinned (OpenSpec.ofChange fnExactIsSoundWrong)

/-- 'laws.FnExactEncodeHex': WHATEVER THE INPUT: true; the input reads as it did. -/
def fnExactEncodeHexSpec : ChangeSpec := { name := "fnExactEncodeHex", fn := fun _ => fun
  | [d] => { results := [.lit (.bool true)], args := [d] }
  | _ => none }
def fnExactEncodeHexRow : OpenClaim := { program := "ythocpjoimipjdaa", sum := "d66b17fe30e61a61f48273ab9ab05319978d3517e1f79e5af36c1b9bd6aceda3", func := "loop.example/g02080/laws.FnExactEncodeHex", spec := "fnExactEncodeHex", apart := false }
def FnExactEncodeHexSaid : Prop := fnExactEncodeHexRow.holds Try.pinned (OpenSpec.ofChange fnExactEncodeHexSpec)

/-- ITS FALSE NEIGHBOUR: 'it returns false'. Refute it at one input. -/
def fnExactEncodeHexWrong : ChangeSpec := { name := "fnExactEncodeHex", fn := fun _ => fun
  | [d] => { results := [.lit (.bool false)], args := [d] }
  | _ => none }
def FnExactEncodeHexWrongFalsely : Prop := fnExactEncodeHexRow.holds Try.pinned (OpenSpec.ofChange fnExactEncodeHexWrong)

/-- 'laws.FnExactDecodeFixed': WHATEVER THE INPUT: true; the input reads as it did. -/
def fnExactDecodeFixedSpec : ChangeSpec := { name := "fnExactDecodeFixed", fn := fun _ => fun
  | [d1, d2] => { results := [.lit (.bool true)], args := [d1, d2] }
  | _ => none }
def fnExactDecodeFixedRow : OpenClaim := { program := "ythocpjoimipjdaa", sum := "d66b17fe30e61a61f48273ab9ab05319978d3517e1f79e5af36c1b9bd6aceda3", func := "loop.example/g02080/laws.FnExactDecodeFixed", spec := "fnExactDecodeFixed", apart := false }
def FnExactDecodeFixedSaid : Prop := fnExactDecodeFixedRow.holds Try.pinned (OpenSpec.ofChange fnExactDecodeFixedSpec)

/-- ITS FALSE NEIGHBOUR: 'it returns false'. Refute it at one input. -/
def fnExactDecodeFixedWrong : ChangeSpec := { name := "fnExactDecodeFixed", fn := fun _ => fun
  | [d1, d2] => { results := [.lit (.bool false)], args := [d1, d2] }
  | _ => none }
def FnExactDecodeFixedWrongFalsely : Prop := fnExactDecodeFixedRow.holds Try.pinned (OpenSpec.ofChange fnExactDecodeFixedWrong)

/-- 'laws.FnExactEncodeVarint': WHATEVER THE INPUT: true; the input reads as it did. -/
def fnExactEncodeVarintSpec : ChangeSpec := { name := "fnExactEncodeVarint", fn := fun _ => fun
  | [d] => { results := [.lit (.bool true)], args := [d] }
  | _ => none }
def fnExactEncodeVarintRow : OpenClaim := { program := "ythocpjoimipjdaa", sum := "d66b17fe30e61a61f48273ab9ab05319978d3517e1f79e5af36c1b9bd6aceda3", func := "loop.example/g02080/laws.FnExactEncodeVarint", spec := "fnExactEncodeVarint", apart := false }
def FnExactEncodeVarintSaid : Prop := fnExactEncodeVarintRow.holds Try.pinned (OpenSpec.ofChange fnExactEncodeVarintSpec)

/-- ITS FALSE NEIGHBOUR: 'it returns false'. Refute it at one input. -/
def fnExactEncodeVarintWrong : ChangeSpec := { name := "fnExactEncodeVarint", fn := fun _ => fun
  | [d] => { results := [.lit (.bool false)], args := [d] }
  | _ => none }
def FnExactEncodeVarintWrongFalsely : Prop := fnExactEncodeVarintRow.holds Try.pinned (OpenSpec.ofChange fnExactEncodeVarintWrong)

/-- 'laws.FnExactIsOpen': WHATEVER THE INPUT: true; the input reads as it did. -/
def fnExactIsOpenSpec : ChangeSpec := { name := "fnExactIsOpen", fn := fun _ => fun
  | [d] => { results := [.lit (.bool true)], args := [d] }
  | _ => none }
def fnExactIsOpenRow : OpenClaim := { program := "ythocpjoimipjdaa", sum := "d66b17fe30e61a61f48273ab9ab05319978d3517e1f79e5af36c1b9bd6aceda3", func := "loop.example/g02080/laws.FnExactIsOpen", spec := "fnExactIsOpen", apart := false }
def FnExactIsOpenSaid : Prop := fnExactIsOpenRow.holds Try.pinned (OpenSpec.ofChange fnExactIsOpenSpec)

/-- ITS FALSE NEIGHBOUR: 'it returns false'. Refute it at one input. -/
def fnExactIsOpenWrong : ChangeSpec := { name := "fnExactIsOpen", fn := fun _ => fun
  | [d] => { results := [.lit (.bool false)], args := [d] }
  | _ => none }
def FnExactIsOpenWrongFalsely : Prop := fnExactIsOpenRow.holds Try.pinned (OpenSpec.ofChange fnExactIsOpenWrong)

/-- 'laws.FnExactEncodeFixed': WHATEVER THE INPUT: true; the input reads as it did. -/
def fnExactEncodeFixedSpec : ChangeSpec := { name := "fnExactEncodeFixed", fn := fun _ => fun
  | [d1, d2] => { results := [.lit (.bool true)], args := [d1, d2] }
  | _ => none }
def fnExactEncodeFixedRow : OpenClaim := { program := "ythocpjoimipjdaa", sum := "d66b17fe30e61a61f48273ab9ab05319978d3517e1f79e5af36c1b9bd6aceda3", func := "loop.example/g02080/laws.FnExactEncodeFixed", spec := "fnExactEncodeFixed", apart := false }
def FnExactEncodeFixedSaid : Prop := fnExactEncodeFixedRow.holds Try.pinned (OpenSpec.ofChange fnExactEncodeFixedSpec)

/-- ITS FALSE NEIGHBOUR: 'it returns false'. Refute it at one input. -/
def fnExactEncodeFixedWrong : ChangeSpec := { name := "fnExactEncodeFixed", fn := fun _ => fun
  | [d1, d2] => { results := [.lit (.bool false)], args := [d1, d2] }
  | _ => none }
def FnExactEncodeFixedWrongFalsely : Prop := fnExactEncodeFixedRow.holds Try.pinned (OpenSpec.ofChange fnExactEncodeFixedWrong)

/-- 'laws.FnExactSwapVoice': WHATEVER THE INPUT: true; the input reads as it did. -/
def fnExactSwapVoiceSpec : ChangeSpec := { name := "fnExactSwapVoice", fn := fun _ => fun
  | [d] => { results := [.lit (.bool true)], args := [d] }
  | _ => none }
def fnExactSwapVoiceRow : OpenClaim := { program := "ythocpjoimipjdaa", sum := "d66b17fe30e61a61f48273ab9ab05319978d3517e1f79e5af36c1b9bd6aceda3", func := "loop.example/g02080/laws.FnExactSwapVoice", spec := "fnExactSwapVoice", inPlace := ["internal/bytealg.IndexByteString"], apart := false }
def FnExactSwapVoiceSaid : Prop := fnExactSwapVoiceRow.holds Try.pinned (OpenSpec.ofChange fnExactSwapVoiceSpec)

/-- ITS FALSE NEIGHBOUR: 'it returns false'. Refute it at one input. -/
def fnExactSwapVoiceWrong : ChangeSpec := { name := "fnExactSwapVoice", fn := fun _ => fun
  | [d] => { results := [.lit (.bool false)], args := [d] }
  | _ => none }
def FnExactSwapVoiceWrongFalsely : Prop := fnExactSwapVoiceRow.holds Try.pinned (OpenSpec.ofChange fnExactSwapVoiceWrong)

/-- 'laws.FnExactHasFeature': WHATEVER THE INPUT: true; the input reads as it did. -/
def fnExactHasFeatureSpec : ChangeSpec := { name := "fnExactHasFeature", fn := fun _ => fun
  | [d1, d2] => { results := [.lit (.bool true)], args := [d1, d2] }
  | _ => none }
def fnExactHasFeatureRow : OpenClaim := { program := "ythocpjoimipjdaa", sum := "d66b17fe30e61a61f48273ab9ab05319978d3517e1f79e5af36c1b9bd6aceda3", func := "loop.example/g02080/laws.FnExactHasFeature", spec := "fnExactHasFeature", inPlace := ["internal/bytealg.IndexByteString"], apart := false }
def FnExactHasFeatureSaid : Prop := fnExactHasFeatureRow.holds Try.pinned (OpenSpec.ofChange fnExactHasFeatureSpec)

/-- ITS FALSE NEIGHBOUR: 'it returns false'. Refute it at one input. -/
def fnExactHasFeatureWrong : ChangeSpec := { name := "fnExactHasFeature", fn := fun _ => fun
  | [d1, d2] => { results := [.lit (.bool false)], args := [d1, d2] }
  | _ => none }
def FnExactHasFeatureWrongFalsely : Prop := fnExactHasFeatureRow.holds Try.pinned (OpenSpec.ofChange fnExactHasFeatureWrong)

/-- 'laws.FnExactIsVowelAt': WHATEVER THE INPUT: true; the input reads as it did. -/
def fnExactIsVowelAtSpec : ChangeSpec := { name := "fnExactIsVowelAt", fn := fun _ => fun
  | [d1, d2] => { results := [.lit (.bool true)], args := [d1, d2] }
  | _ => none }
def fnExactIsVowelAtRow : OpenClaim := { program := "ythocpjoimipjdaa", sum := "d66b17fe30e61a61f48273ab9ab05319978d3517e1f79e5af36c1b9bd6aceda3", func := "loop.example/g02080/laws.FnExactIsVowelAt", spec := "fnExactIsVowelAt", inPlace := ["internal/bytealg.IndexByteString"], apart := false }
def FnExactIsVowelAtSaid : Prop := fnExactIsVowelAtRow.holds Try.pinned (OpenSpec.ofChange fnExactIsVowelAtSpec)

/-- ITS FALSE NEIGHBOUR: 'it returns false'. Refute it at one input. -/
def fnExactIsVowelAtWrong : ChangeSpec := { name := "fnExactIsVowelAt", fn := fun _ => fun
  | [d1, d2] => { results := [.lit (.bool false)], args := [d1, d2] }
  | _ => none }
def FnExactIsVowelAtWrongFalsely : Prop := fnExactIsVowelAtRow.holds Try.pinned (OpenSpec.ofChange fnExactIsVowelAtWrong)

/- THE SECOND FORM. 'bulk': how many values and letters a reading holds, each counted each time it is reached (what is shared counts as often as it is met; a slice's spare places count too). A statement '..UptoSaid' is the law's where the arguments, and the package variables that the reading takes, are together of bulk at most 1048576: NARROWER than '..Said'. Prove '..Said' where nothing that the law and all that it calls make is longer than what came in: it says more and counts as full. Else prove '..UptoSaid'. A law counts once. -/
mutual
def uptoBulk {H : Type} : DataW H → Nat
  | .lit (.string bytes) => bytes.length + 1
  | .lit _ => 1
  | .nil => 1
  | .ptr d => uptoBulk d + 1
  | .slice elems spare => uptoBulkAll elems + uptoBulkAll spare + 1
  | .agg parts => uptoBulkAll parts + 1
  | .iface _ d => uptoBulk d + 1
  | .map entries => uptoBulkEntries entries + 1
  | .held _ => 1
def uptoBulkAll {H : Type} : List (DataW H) → Nat
  | [] => 0
  | d :: r => uptoBulk d + uptoBulkAll r
def uptoBulkEntries {H : Type} : List (Lit × DataW H) → Nat
  | [] => 0
  | x :: r => uptoBulkEntry x + uptoBulkEntries r
def uptoBulkEntry {H : Type} : Lit × DataW H → Nat
  | (.string bytes, d) => bytes.length + uptoBulk d + 1
  | (_, d) => uptoBulk d + 1
 end
def uptoSmall : (H : Type) → List (DataW H) → Bool := fun _ ds => decide (uptoBulkAll ds ≤ 1048576)
def OpenSpec.upto (s : _root_.Go.ChangeSpec) : _root_.Go.OpenSpec := { _root_.Go.OpenSpec.ofChange s with cond := some uptoSmall }

/-- 'laws.FnExactConstants', WHERE WHAT IT READS IS OF BULK AT MOST 1048576: true; the input reads as it did. -/
def fnExactConstantsUptoRow : OpenClaim := { program := "ythocpjoimipjdaa", sum := "d66b17fe30e61a61f48273ab9ab05319978d3517e1f79e5af36c1b9bd6aceda3", func := "loop.example/g02080/laws.FnExactConstants", spec := "fnExactConstants", apart := false, narrowed := true }
def FnExactConstantsUptoSaid : Prop := fnExactConstantsUptoRow.holds Try.pinned (OpenSpec.upto fnExactConstantsSpec)

/-- 'laws.FnExactIsObstruent', WHERE WHAT IT READS IS OF BULK AT MOST 1048576: true; the input reads as it did. -/
def fnExactIsObstruentUptoRow : OpenClaim := { program := "ythocpjoimipjdaa", sum := "d66b17fe30e61a61f48273ab9ab05319978d3517e1f79e5af36c1b9bd6aceda3", func := "loop.example/g02080/laws.FnExactIsObstruent", spec := "fnExactIsObstruent", inPlace := ["internal/bytealg.IndexByteString"], apart := false, narrowed := true }
def FnExactIsObstruentUptoSaid : Prop := fnExactIsObstruentUptoRow.holds Try.pinned (OpenSpec.upto fnExactIsObstruentSpec)

/-- 'laws.FnExactReverseForm', WHERE WHAT IT READS IS OF BULK AT MOST 1048576: true; the input reads as it did. -/
def fnExactReverseFormUptoRow : OpenClaim := { program := "ythocpjoimipjdaa", sum := "d66b17fe30e61a61f48273ab9ab05319978d3517e1f79e5af36c1b9bd6aceda3", func := "loop.example/g02080/laws.FnExactReverseForm", spec := "fnExactReverseForm", apart := false, narrowed := true }
def FnExactReverseFormUptoSaid : Prop := fnExactReverseFormUptoRow.holds Try.pinned (OpenSpec.upto fnExactReverseFormSpec)

/-- 'laws.FnExactIsSound', WHERE WHAT IT READS IS OF BULK AT MOST 1048576: true; the input reads as it did. -/
def fnExactIsSoundUptoRow : OpenClaim := { program := "ythocpjoimipjdaa", sum := "d66b17fe30e61a61f48273ab9ab05319978d3517e1f79e5af36c1b9bd6aceda3", func := "loop.example/g02080/laws.FnExactIsSound", spec := "fnExactIsSound", inPlace := ["internal/bytealg.IndexByteString"], apart := false, narrowed := true }
def FnExactIsSoundUptoSaid : Prop := fnExactIsSoundUptoRow.holds Try.pinned (OpenSpec.upto fnExactIsSoundSpec)

/-- 'laws.FnExactEncodeHex', WHERE WHAT IT READS IS OF BULK AT MOST 1048576: true; the input reads as it did. -/
def fnExactEncodeHexUptoRow : OpenClaim := { program := "ythocpjoimipjdaa", sum := "d66b17fe30e61a61f48273ab9ab05319978d3517e1f79e5af36c1b9bd6aceda3", func := "loop.example/g02080/laws.FnExactEncodeHex", spec := "fnExactEncodeHex", apart := false, narrowed := true }
def FnExactEncodeHexUptoSaid : Prop := fnExactEncodeHexUptoRow.holds Try.pinned (OpenSpec.upto fnExactEncodeHexSpec)

/-- 'laws.FnExactDecodeFixed', WHERE WHAT IT READS IS OF BULK AT MOST 1048576: true; the input reads as it did. -/
def fnExactDecodeFixedUptoRow : OpenClaim := { program := "ythocpjoimipjdaa", sum := "d66b17fe30e61a61f48273ab9ab05319978d3517e1f79e5af36c1b9bd6aceda3", func := "loop.example/g02080/laws.FnExactDecodeFixed", spec := "fnExactDecodeFixed", apart := false, narrowed := true }
def FnExactDecodeFixedUptoSaid : Prop := fnExactDecodeFixedUptoRow.holds Try.pinned (OpenSpec.upto fnExactDecodeFixedSpec)

/-- 'laws.FnExactEncodeVarint', WHERE WHAT IT READS IS OF BULK AT MOST 1048576: true; the input reads as it did. -/
def fnExactEncodeVarintUptoRow : OpenClaim := { program := "ythocpjoimipjdaa", sum := "d66b17fe30e61a61f48273ab9ab05319978d3517e1f79e5af36c1b9bd6aceda3", func := "loop.example/g02080/laws.FnExactEncodeVarint", spec := "fnExactEncodeVarint", apart := false, narrowed := true }
def FnExactEncodeVarintUptoSaid : Prop := fnExactEncodeVarintUptoRow.holds Try.pinned (OpenSpec.upto fnExactEncodeVarintSpec)

/-- 'laws.FnExactIsOpen', WHERE WHAT IT READS IS OF BULK AT MOST 1048576: true; the input reads as it did. -/
def fnExactIsOpenUptoRow : OpenClaim := { program := "ythocpjoimipjdaa", sum := "d66b17fe30e61a61f48273ab9ab05319978d3517e1f79e5af36c1b9bd6aceda3", func := "loop.example/g02080/laws.FnExactIsOpen", spec := "fnExactIsOpen", apart := false, narrowed := true }
def FnExactIsOpenUptoSaid : Prop := fnExactIsOpenUptoRow.holds Try.pinned (OpenSpec.upto fnExactIsOpenSpec)

/-- 'laws.FnExactEncodeFixed', WHERE WHAT IT READS IS OF BULK AT MOST 1048576: true; the input reads as it did. -/
def fnExactEncodeFixedUptoRow : OpenClaim := { program := "ythocpjoimipjdaa", sum := "d66b17fe30e61a61f48273ab9ab05319978d3517e1f79e5af36c1b9bd6aceda3", func := "loop.example/g02080/laws.FnExactEncodeFixed", spec := "fnExactEncodeFixed", apart := false, narrowed := true }
def FnExactEncodeFixedUptoSaid : Prop := fnExactEncodeFixedUptoRow.holds Try.pinned (OpenSpec.upto fnExactEncodeFixedSpec)

/-- 'laws.FnExactSwapVoice', WHERE WHAT IT READS IS OF BULK AT MOST 1048576: true; the input reads as it did. -/
def fnExactSwapVoiceUptoRow : OpenClaim := { program := "ythocpjoimipjdaa", sum := "d66b17fe30e61a61f48273ab9ab05319978d3517e1f79e5af36c1b9bd6aceda3", func := "loop.example/g02080/laws.FnExactSwapVoice", spec := "fnExactSwapVoice", inPlace := ["internal/bytealg.IndexByteString"], apart := false, narrowed := true }
def FnExactSwapVoiceUptoSaid : Prop := fnExactSwapVoiceUptoRow.holds Try.pinned (OpenSpec.upto fnExactSwapVoiceSpec)

/-- 'laws.FnExactHasFeature', WHERE WHAT IT READS IS OF BULK AT MOST 1048576: true; the input reads as it did. -/
def fnExactHasFeatureUptoRow : OpenClaim := { program := "ythocpjoimipjdaa", sum := "d66b17fe30e61a61f48273ab9ab05319978d3517e1f79e5af36c1b9bd6aceda3", func := "loop.example/g02080/laws.FnExactHasFeature", spec := "fnExactHasFeature", inPlace := ["internal/bytealg.IndexByteString"], apart := false, narrowed := true }
def FnExactHasFeatureUptoSaid : Prop := fnExactHasFeatureUptoRow.holds Try.pinned (OpenSpec.upto fnExactHasFeatureSpec)

/-- 'laws.FnExactIsVowelAt', WHERE WHAT IT READS IS OF BULK AT MOST 1048576: true; the input reads as it did. -/
def fnExactIsVowelAtUptoRow : OpenClaim := { program := "ythocpjoimipjdaa", sum := "d66b17fe30e61a61f48273ab9ab05319978d3517e1f79e5af36c1b9bd6aceda3", func := "loop.example/g02080/laws.FnExactIsVowelAt", spec := "fnExactIsVowelAt", inPlace := ["internal/bytealg.IndexByteString"], apart := false, narrowed := true }
def FnExactIsVowelAtUptoSaid : Prop := fnExactIsVowelAtUptoRow.holds Try.pinned (OpenSpec.upto fnExactIsVowelAtSpec)

end Rows
end Go.Proofs.Ythocpjoimipjdaa
