/-
  No cell of these rows narrows 'for every input' (looked for: loops, veiled, ifaces, maps, wideKeys, modest, calm, conditions, laid).
  DERIVED. THE GIVEN ROWS OF THIS SEAT. 12 by the template 'for every input the law returns true; each argument reads behind the call as it read before'; 0 by the template 'total and deterministic' (their statements: YtnaehnenhnfecaaTotals.lean).
  GIVEN WITH THE SEED: the statements are not yours to turn. If you find one false, say at which input.
  Laid BY PROGRAM, IN A SANDBOX (cutbox-rows.mjs): the forced cells as the released guide's own fill.sh prints them over the translation b5dde95a968d217a… (all of the seat's roots in one cut). By AI agents, Wed Nov 11 2026. No macro, syntax, notation, axiom, sorry.
-/
import Derived.Test.YtnaehnenhnfecaaChecked
import GoSem.Claim
import GoSem.ClaimJoined
import GoSem.ClaimMapViews
import Derived.JoinedTies
import Derived.KernelRfl
namespace Go.Proofs.Ytnaehnenhnfecaa
/- THE CELL 'sum', in the pinned program and in every row, IS THE sha256 OF THE DUMP (.gsa) THAT YtnaehnenhnfecaaProg.lean LOADS. Nothing in Lean hashes anything: it is a label: what it is worth is what the hold of that sum in a sandbox is worth. -/
noncomputable def Try.pinned : Pinned := { name := "ytnaehnenhnfecaa", sum := "b5dde95a968d217a1670b7d91b3845e00adab481a73299eb0907905438f039e0", checked := Try.checked }
namespace Rows
def none {H : Type} : Left H := { results := [], args := [] }

/-- 'laws.FnExactIsForm': WHATEVER THE INPUT: true; the input reads as it did. -/
def fnExactIsFormSpec : ChangeSpec := { name := "fnExactIsForm", fn := fun _ => fun
  | [d] => { results := [.lit (.bool true)], args := [d] }
  | _ => none }
def fnExactIsFormRow : OpenClaim := { program := "ytnaehnenhnfecaa", sum := "b5dde95a968d217a1670b7d91b3845e00adab481a73299eb0907905438f039e0", func := "loop.example/g02080/laws.FnExactIsForm", spec := "fnExactIsForm", inPlace := ["internal/bytealg.IndexByteString"], apart := false }
def FnExactIsFormSaid : Prop := fnExactIsFormRow.holds Try.pinned (OpenSpec.ofChange fnExactIsFormSpec)

/-- ITS FALSE NEIGHBOUR: 'it returns false'. Refute it at one input. -/
def fnExactIsFormWrong : ChangeSpec := { name := "fnExactIsForm", fn := fun _ => fun
  | [d] => { results := [.lit (.bool false)], args := [d] }
  | _ => none }
def FnExactIsFormWrongFalsely : Prop := fnExactIsFormRow.holds Try.pinned (OpenSpec.ofChange fnExactIsFormWrong)

/-- 'laws.FnExactWeightOf': WHATEVER THE INPUT: true; the input reads as it did. -/
def fnExactWeightOfSpec : ChangeSpec := { name := "fnExactWeightOf", fn := fun _ => fun
  | [d] => { results := [.lit (.bool true)], args := [d] }
  | _ => none }
def fnExactWeightOfRow : OpenClaim := { program := "ytnaehnenhnfecaa", sum := "b5dde95a968d217a1670b7d91b3845e00adab481a73299eb0907905438f039e0", func := "loop.example/g02080/laws.FnExactWeightOf", spec := "fnExactWeightOf", apart := false }
def FnExactWeightOfSaid : Prop := fnExactWeightOfRow.holds Try.pinned (OpenSpec.ofChange fnExactWeightOfSpec)

/-- ITS FALSE NEIGHBOUR: 'it returns false'. Refute it at one input. -/
def fnExactWeightOfWrong : ChangeSpec := { name := "fnExactWeightOf", fn := fun _ => fun
  | [d] => { results := [.lit (.bool false)], args := [d] }
  | _ => none }
def FnExactWeightOfWrongFalsely : Prop := fnExactWeightOfRow.holds Try.pinned (OpenSpec.ofChange fnExactWeightOfWrong)

/-- 'laws.FnExactDecodeHex': WHATEVER THE INPUT: true; the input reads as it did. -/
def fnExactDecodeHexSpec : ChangeSpec := { name := "fnExactDecodeHex", fn := fun _ => fun
  | [d] => { results := [.lit (.bool true)], args := [d] }
  | _ => none }
def fnExactDecodeHexRow : OpenClaim := { program := "ytnaehnenhnfecaa", sum := "b5dde95a968d217a1670b7d91b3845e00adab481a73299eb0907905438f039e0", func := "loop.example/g02080/laws.FnExactDecodeHex", spec := "fnExactDecodeHex", inPlace := ["internal/bytealg.IndexByteString"], apart := false }
def FnExactDecodeHexSaid : Prop := fnExactDecodeHexRow.holds Try.pinned (OpenSpec.ofChange fnExactDecodeHexSpec)

/-- ITS FALSE NEIGHBOUR: 'it returns false'. Refute it at one input. -/
def fnExactDecodeHexWrong : ChangeSpec := { name := "fnExactDecodeHex", fn := fun _ => fun
  | [d] => { results := [.lit (.bool false)], args := [d] }
  | _ => none }
def FnExactDecodeHexWrongFalsely : Prop := fnExactDecodeHexRow.holds Try.pinned (OpenSpec.ofChange fnExactDecodeHexWrong)

/-- 'laws.FnExactSoundsWith': WHATEVER THE INPUT: true; the input reads as it did. -/
def fnExactSoundsWithSpec : ChangeSpec := { name := "fnExactSoundsWith", fn := fun _ => fun
  | [d1, d2] => { results := [.lit (.bool true)], args := [d1, d2] }
  | _ => none }
def fnExactSoundsWithRow : OpenClaim := { program := "ytnaehnenhnfecaa", sum := "b5dde95a968d217a1670b7d91b3845e00adab481a73299eb0907905438f039e0", func := "loop.example/g02080/laws.FnExactSoundsWith", spec := "fnExactSoundsWith", inPlace := ["internal/bytealg.IndexByteString"], apart := false }
def FnExactSoundsWithSaid : Prop := fnExactSoundsWithRow.holds Try.pinned (OpenSpec.ofChange fnExactSoundsWithSpec)

/-- ITS FALSE NEIGHBOUR: 'it returns false'. Refute it at one input. -/
def fnExactSoundsWithWrong : ChangeSpec := { name := "fnExactSoundsWith", fn := fun _ => fun
  | [d1, d2] => { results := [.lit (.bool false)], args := [d1, d2] }
  | _ => none }
def FnExactSoundsWithWrongFalsely : Prop := fnExactSoundsWithRow.holds Try.pinned (OpenSpec.ofChange fnExactSoundsWithWrong)

/-- 'laws.FnExactDecodeVarint': WHATEVER THE INPUT: true; the input reads as it did. -/
def fnExactDecodeVarintSpec : ChangeSpec := { name := "fnExactDecodeVarint", fn := fun _ => fun
  | [d] => { results := [.lit (.bool true)], args := [d] }
  | _ => none }
def fnExactDecodeVarintRow : OpenClaim := { program := "ytnaehnenhnfecaa", sum := "b5dde95a968d217a1670b7d91b3845e00adab481a73299eb0907905438f039e0", func := "loop.example/g02080/laws.FnExactDecodeVarint", spec := "fnExactDecodeVarint", apart := false }
def FnExactDecodeVarintSaid : Prop := fnExactDecodeVarintRow.holds Try.pinned (OpenSpec.ofChange fnExactDecodeVarintSpec)

/-- ITS FALSE NEIGHBOUR: 'it returns false'. Refute it at one input. -/
def fnExactDecodeVarintWrong : ChangeSpec := { name := "fnExactDecodeVarint", fn := fun _ => fun
  | [d] => { results := [.lit (.bool false)], args := [d] }
  | _ => none }
def FnExactDecodeVarintWrongFalsely : Prop := fnExactDecodeVarintRow.holds Try.pinned (OpenSpec.ofChange fnExactDecodeVarintWrong)

/-- 'laws.FnExactCountVowels': WHATEVER THE INPUT: true; the input reads as it did. -/
def fnExactCountVowelsSpec : ChangeSpec := { name := "fnExactCountVowels", fn := fun _ => fun
  | [d] => { results := [.lit (.bool true)], args := [d] }
  | _ => none }
def fnExactCountVowelsRow : OpenClaim := { program := "ytnaehnenhnfecaa", sum := "b5dde95a968d217a1670b7d91b3845e00adab481a73299eb0907905438f039e0", func := "loop.example/g02080/laws.FnExactCountVowels", spec := "fnExactCountVowels", inPlace := ["internal/bytealg.IndexByteString"], apart := false }
def FnExactCountVowelsSaid : Prop := fnExactCountVowelsRow.holds Try.pinned (OpenSpec.ofChange fnExactCountVowelsSpec)

/-- ITS FALSE NEIGHBOUR: 'it returns false'. Refute it at one input. -/
def fnExactCountVowelsWrong : ChangeSpec := { name := "fnExactCountVowels", fn := fun _ => fun
  | [d] => { results := [.lit (.bool false)], args := [d] }
  | _ => none }
def FnExactCountVowelsWrongFalsely : Prop := fnExactCountVowelsRow.holds Try.pinned (OpenSpec.ofChange fnExactCountVowelsWrong)

/-- 'laws.FnExactFormsOf': WHATEVER THE INPUT: true; the input reads as it did. -/
def fnExactFormsOfSpec : ChangeSpec := { name := "fnExactFormsOf", fn := fun _ => fun
  | [d] => { results := [.lit (.bool true)], args := [d] }
  | _ => none }
def fnExactFormsOfRow : OpenClaim := { program := "ytnaehnenhnfecaa", sum := "b5dde95a968d217a1670b7d91b3845e00adab481a73299eb0907905438f039e0", func := "loop.example/g02080/laws.FnExactFormsOf", spec := "fnExactFormsOf", apart := false }
def FnExactFormsOfSaid : Prop := fnExactFormsOfRow.holds Try.pinned (OpenSpec.ofChange fnExactFormsOfSpec)

/-- ITS FALSE NEIGHBOUR: 'it returns false'. Refute it at one input. -/
def fnExactFormsOfWrong : ChangeSpec := { name := "fnExactFormsOf", fn := fun _ => fun
  | [d] => { results := [.lit (.bool false)], args := [d] }
  | _ => none }
def FnExactFormsOfWrongFalsely : Prop := fnExactFormsOfRow.holds Try.pinned (OpenSpec.ofChange fnExactFormsOfWrong)

/-- 'laws.FnExactCountEdits': WHATEVER THE INPUT: true; the input reads as it did. -/
def fnExactCountEditsSpec : ChangeSpec := { name := "fnExactCountEdits", fn := fun _ => fun
  | [d] => { results := [.lit (.bool true)], args := [d] }
  | _ => none }
def fnExactCountEditsRow : OpenClaim := { program := "ytnaehnenhnfecaa", sum := "b5dde95a968d217a1670b7d91b3845e00adab481a73299eb0907905438f039e0", func := "loop.example/g02080/laws.FnExactCountEdits", spec := "fnExactCountEdits", apart := false }
def FnExactCountEditsSaid : Prop := fnExactCountEditsRow.holds Try.pinned (OpenSpec.ofChange fnExactCountEditsSpec)

/-- ITS FALSE NEIGHBOUR: 'it returns false'. Refute it at one input. -/
def fnExactCountEditsWrong : ChangeSpec := { name := "fnExactCountEdits", fn := fun _ => fun
  | [d] => { results := [.lit (.bool false)], args := [d] }
  | _ => none }
def FnExactCountEditsWrongFalsely : Prop := fnExactCountEditsRow.holds Try.pinned (OpenSpec.ofChange fnExactCountEditsWrong)

/-- 'laws.FnExactDistanceBetween': WHATEVER THE INPUT: true; the input reads as it did. -/
def fnExactDistanceBetweenSpec : ChangeSpec := { name := "fnExactDistanceBetween", fn := fun _ => fun
  | [d1, d2] => { results := [.lit (.bool true)], args := [d1, d2] }
  | _ => none }
def fnExactDistanceBetweenRow : OpenClaim := { program := "ytnaehnenhnfecaa", sum := "b5dde95a968d217a1670b7d91b3845e00adab481a73299eb0907905438f039e0", func := "loop.example/g02080/laws.FnExactDistanceBetween", spec := "fnExactDistanceBetween", inPlace := ["internal/bytealg.IndexByteString"], apart := false }
def FnExactDistanceBetweenSaid : Prop := fnExactDistanceBetweenRow.holds Try.pinned (OpenSpec.ofChange fnExactDistanceBetweenSpec)

/-- ITS FALSE NEIGHBOUR: 'it returns false'. Refute it at one input. -/
def fnExactDistanceBetweenWrong : ChangeSpec := { name := "fnExactDistanceBetween", fn := fun _ => fun
  | [d1, d2] => { results := [.lit (.bool false)], args := [d1, d2] }
  | _ => none }
def FnExactDistanceBetweenWrongFalsely : Prop := fnExactDistanceBetweenRow.holds Try.pinned (OpenSpec.ofChange fnExactDistanceBetweenWrong)

/-- 'laws.FnExactJoinSyllables': WHATEVER THE INPUT: true; the input reads as it did. -/
def fnExactJoinSyllablesSpec : ChangeSpec := { name := "fnExactJoinSyllables", fn := fun _ => fun
  | [d] => { results := [.lit (.bool true)], args := [d] }
  | _ => none }
def fnExactJoinSyllablesRow : OpenClaim := { program := "ytnaehnenhnfecaa", sum := "b5dde95a968d217a1670b7d91b3845e00adab481a73299eb0907905438f039e0", func := "loop.example/g02080/laws.FnExactJoinSyllables", spec := "fnExactJoinSyllables", apart := false }
def FnExactJoinSyllablesSaid : Prop := fnExactJoinSyllablesRow.holds Try.pinned (OpenSpec.ofChange fnExactJoinSyllablesSpec)

/-- ITS FALSE NEIGHBOUR: 'it returns false'. Refute it at one input. -/
def fnExactJoinSyllablesWrong : ChangeSpec := { name := "fnExactJoinSyllables", fn := fun _ => fun
  | [d] => { results := [.lit (.bool false)], args := [d] }
  | _ => none }
def FnExactJoinSyllablesWrongFalsely : Prop := fnExactJoinSyllablesRow.holds Try.pinned (OpenSpec.ofChange fnExactJoinSyllablesWrong)

/-- 'laws.FnExactEqualCandidates': WHATEVER THE INPUT: true; the input reads as it did. -/
def fnExactEqualCandidatesSpec : ChangeSpec := { name := "fnExactEqualCandidates", fn := fun _ => fun
  | [d1, d2] => { results := [.lit (.bool true)], args := [d1, d2] }
  | _ => none }
def fnExactEqualCandidatesRow : OpenClaim := { program := "ytnaehnenhnfecaa", sum := "b5dde95a968d217a1670b7d91b3845e00adab481a73299eb0907905438f039e0", func := "loop.example/g02080/laws.FnExactEqualCandidates", spec := "fnExactEqualCandidates", apart := false }
def FnExactEqualCandidatesSaid : Prop := fnExactEqualCandidatesRow.holds Try.pinned (OpenSpec.ofChange fnExactEqualCandidatesSpec)

/-- ITS FALSE NEIGHBOUR: 'it returns false'. Refute it at one input. -/
def fnExactEqualCandidatesWrong : ChangeSpec := { name := "fnExactEqualCandidates", fn := fun _ => fun
  | [d1, d2] => { results := [.lit (.bool false)], args := [d1, d2] }
  | _ => none }
def FnExactEqualCandidatesWrongFalsely : Prop := fnExactEqualCandidatesRow.holds Try.pinned (OpenSpec.ofChange fnExactEqualCandidatesWrong)

/-- 'laws.FnExactSkeletonOf': WHATEVER THE INPUT: true; the input reads as it did. -/
def fnExactSkeletonOfSpec : ChangeSpec := { name := "fnExactSkeletonOf", fn := fun _ => fun
  | [d] => { results := [.lit (.bool true)], args := [d] }
  | _ => none }
def fnExactSkeletonOfRow : OpenClaim := { program := "ytnaehnenhnfecaa", sum := "b5dde95a968d217a1670b7d91b3845e00adab481a73299eb0907905438f039e0", func := "loop.example/g02080/laws.FnExactSkeletonOf", spec := "fnExactSkeletonOf", inPlace := ["internal/bytealg.IndexByteString"], apart := false }
def FnExactSkeletonOfSaid : Prop := fnExactSkeletonOfRow.holds Try.pinned (OpenSpec.ofChange fnExactSkeletonOfSpec)

/-- ITS FALSE NEIGHBOUR: 'it returns false'. Refute it at one input. -/
def fnExactSkeletonOfWrong : ChangeSpec := { name := "fnExactSkeletonOf", fn := fun _ => fun
  | [d] => { results := [.lit (.bool false)], args := [d] }
  | _ => none }
def FnExactSkeletonOfWrongFalsely : Prop := fnExactSkeletonOfRow.holds Try.pinned (OpenSpec.ofChange fnExactSkeletonOfWrong)

/- THE SECOND FORM. 'bulk': how many values and letters a reading holds, each counted each time it is reached (what is shared counts as often as it is met; a slice's spare places count too). A statement '..UptoSaid' is the law's where the arguments, and the package variables that the reading takes, are together of bulk at most 1048576: NARROWER than '..Said'. Prove '..Said' where nothing that the law and all that it calls make is longer than what came in: it says more and counts as full. Else prove '..UptoSaid'. A law counts once. -/
mutual
def uptoBulk {H : Type} : DataW H → Nat
  | .lit (.string bytes) => bytes.length + 1
  | .lit _ => 1
  | .nil => 1
  | .ptr d => uptoBulk d + 1
  | .slice elems spare => uptoBulkAll elems + uptoBulkAll spare + 1
  | .agg parts => uptoBulkAll parts + 1
  | .iface _ d => uptoBulk d + 1
  | .map entries => uptoBulkEntries entries + 1
  | .held _ => 1
def uptoBulkAll {H : Type} : List (DataW H) → Nat
  | [] => 0
  | d :: r => uptoBulk d + uptoBulkAll r
def uptoBulkEntries {H : Type} : List (Lit × DataW H) → Nat
  | [] => 0
  | x :: r => uptoBulkEntry x + uptoBulkEntries r
def uptoBulkEntry {H : Type} : Lit × DataW H → Nat
  | (.string bytes, d) => bytes.length + uptoBulk d + 1
  | (_, d) => uptoBulk d + 1
 end
def uptoSmall : (H : Type) → List (DataW H) → Bool := fun _ ds => decide (uptoBulkAll ds ≤ 1048576)
def OpenSpec.upto (s : _root_.Go.ChangeSpec) : _root_.Go.OpenSpec := { _root_.Go.OpenSpec.ofChange s with cond := some uptoSmall }

/-- 'laws.FnExactIsForm', WHERE WHAT IT READS IS OF BULK AT MOST 1048576: true; the input reads as it did. -/
def fnExactIsFormUptoRow : OpenClaim := { program := "ytnaehnenhnfecaa", sum := "b5dde95a968d217a1670b7d91b3845e00adab481a73299eb0907905438f039e0", func := "loop.example/g02080/laws.FnExactIsForm", spec := "fnExactIsForm", inPlace := ["internal/bytealg.IndexByteString"], apart := false, narrowed := true }
def FnExactIsFormUptoSaid : Prop := fnExactIsFormUptoRow.holds Try.pinned (OpenSpec.upto fnExactIsFormSpec)

/-- 'laws.FnExactWeightOf', WHERE WHAT IT READS IS OF BULK AT MOST 1048576: true; the input reads as it did. -/
def fnExactWeightOfUptoRow : OpenClaim := { program := "ytnaehnenhnfecaa", sum := "b5dde95a968d217a1670b7d91b3845e00adab481a73299eb0907905438f039e0", func := "loop.example/g02080/laws.FnExactWeightOf", spec := "fnExactWeightOf", apart := false, narrowed := true }
def FnExactWeightOfUptoSaid : Prop := fnExactWeightOfUptoRow.holds Try.pinned (OpenSpec.upto fnExactWeightOfSpec)

/-- 'laws.FnExactDecodeHex', WHERE WHAT IT READS IS OF BULK AT MOST 1048576: true; the input reads as it did. -/
def fnExactDecodeHexUptoRow : OpenClaim := { program := "ytnaehnenhnfecaa", sum := "b5dde95a968d217a1670b7d91b3845e00adab481a73299eb0907905438f039e0", func := "loop.example/g02080/laws.FnExactDecodeHex", spec := "fnExactDecodeHex", inPlace := ["internal/bytealg.IndexByteString"], apart := false, narrowed := true }
def FnExactDecodeHexUptoSaid : Prop := fnExactDecodeHexUptoRow.holds Try.pinned (OpenSpec.upto fnExactDecodeHexSpec)

/-- 'laws.FnExactSoundsWith', WHERE WHAT IT READS IS OF BULK AT MOST 1048576: true; the input reads as it did. -/
def fnExactSoundsWithUptoRow : OpenClaim := { program := "ytnaehnenhnfecaa", sum := "b5dde95a968d217a1670b7d91b3845e00adab481a73299eb0907905438f039e0", func := "loop.example/g02080/laws.FnExactSoundsWith", spec := "fnExactSoundsWith", inPlace := ["internal/bytealg.IndexByteString"], apart := false, narrowed := true }
def FnExactSoundsWithUptoSaid : Prop := fnExactSoundsWithUptoRow.holds Try.pinned (OpenSpec.upto fnExactSoundsWithSpec)

/-- 'laws.FnExactDecodeVarint', WHERE WHAT IT READS IS OF BULK AT MOST 1048576: true; the input reads as it did. -/
def fnExactDecodeVarintUptoRow : OpenClaim := { program := "ytnaehnenhnfecaa", sum := "b5dde95a968d217a1670b7d91b3845e00adab481a73299eb0907905438f039e0", func := "loop.example/g02080/laws.FnExactDecodeVarint", spec := "fnExactDecodeVarint", apart := false, narrowed := true }
def FnExactDecodeVarintUptoSaid : Prop := fnExactDecodeVarintUptoRow.holds Try.pinned (OpenSpec.upto fnExactDecodeVarintSpec)

/-- 'laws.FnExactCountVowels', WHERE WHAT IT READS IS OF BULK AT MOST 1048576: true; the input reads as it did. -/
def fnExactCountVowelsUptoRow : OpenClaim := { program := "ytnaehnenhnfecaa", sum := "b5dde95a968d217a1670b7d91b3845e00adab481a73299eb0907905438f039e0", func := "loop.example/g02080/laws.FnExactCountVowels", spec := "fnExactCountVowels", inPlace := ["internal/bytealg.IndexByteString"], apart := false, narrowed := true }
def FnExactCountVowelsUptoSaid : Prop := fnExactCountVowelsUptoRow.holds Try.pinned (OpenSpec.upto fnExactCountVowelsSpec)

/-- 'laws.FnExactFormsOf', WHERE WHAT IT READS IS OF BULK AT MOST 1048576: true; the input reads as it did. -/
def fnExactFormsOfUptoRow : OpenClaim := { program := "ytnaehnenhnfecaa", sum := "b5dde95a968d217a1670b7d91b3845e00adab481a73299eb0907905438f039e0", func := "loop.example/g02080/laws.FnExactFormsOf", spec := "fnExactFormsOf", apart := false, narrowed := true }
def FnExactFormsOfUptoSaid : Prop := fnExactFormsOfUptoRow.holds Try.pinned (OpenSpec.upto fnExactFormsOfSpec)

/-- 'laws.FnExactCountEdits', WHERE WHAT IT READS IS OF BULK AT MOST 1048576: true; the input reads as it did. -/
def fnExactCountEditsUptoRow : OpenClaim := { program := "ytnaehnenhnfecaa", sum := "b5dde95a968d217a1670b7d91b3845e00adab481a73299eb0907905438f039e0", func := "loop.example/g02080/laws.FnExactCountEdits", spec := "fnExactCountEdits", apart := false, narrowed := true }
def FnExactCountEditsUptoSaid : Prop := fnExactCountEditsUptoRow.holds Try.pinned (OpenSpec.upto fnExactCountEditsSpec)

/-- 'laws.FnExactDistanceBetween', WHERE WHAT IT READS IS OF BULK AT MOST 1048576: true; the input reads as it did. -/
def fnExactDistanceBetweenUptoRow : OpenClaim := { program := "ytnaehnenhnfecaa", sum := "b5dde95a968d217a1670b7d91b3845e00adab481a73299eb0907905438f039e0", func := "loop.example/g02080/laws.FnExactDistanceBetween", spec := "fnExactDistanceBetween", inPlace := ["internal/bytealg.IndexByteString"], apart := false, narrowed := true }
def FnExactDistanceBetweenUptoSaid : Prop := fnExactDistanceBetweenUptoRow.holds Try.pinned (OpenSpec.upto fnExactDistanceBetweenSpec)

/-- 'laws.FnExactJoinSyllables', WHERE WHAT IT READS IS OF BULK AT MOST 1048576: true; the input reads as it did. -/
def fnExactJoinSyllablesUptoRow : OpenClaim := { program := "ytnaehnenhnfecaa", sum := "b5dde95a968d217a1670b7d91b3845e00adab481a73299eb0907905438f039e0", func := "loop.example/g02080/laws.FnExactJoinSyllables", spec := "fnExactJoinSyllables", apart := false, narrowed := true }
def FnExactJoinSyllablesUptoSaid : Prop := fnExactJoinSyllablesUptoRow.holds Try.pinned (OpenSpec.upto fnExactJoinSyllablesSpec)

/-- 'laws.FnExactEqualCandidates', WHERE WHAT IT READS IS OF BULK AT MOST 1048576: true; the input reads as it did. -/
def fnExactEqualCandidatesUptoRow : OpenClaim := { program := "ytnaehnenhnfecaa", sum := "b5dde95a968d217a1670b7d91b3845e00adab481a73299eb0907905438f039e0", func := "loop.example/g02080/laws.FnExactEqualCandidates", spec := "fnExactEqualCandidates", apart := false, narrowed := true }
def FnExactEqualCandidatesUptoSaid : Prop := fnExactEqualCandidatesUptoRow.holds Try.pinned (OpenSpec.upto fnExactEqualCandidatesSpec)

/-- 'laws.FnExactSkeletonOf', WHERE WHAT IT READS IS OF BULK AT MOST 1048576: true; the input reads as it did. -/
def fnExactSkeletonOfUptoRow : OpenClaim := { program := "ytnaehnenhnfecaa", sum := "b5dde95a968d217a1670b7d91b3845e00adab481a73299eb0907905438f039e0", func := "loop.example/g02080/laws.FnExactSkeletonOf", spec := "fnExactSkeletonOf", inPlace := ["internal/bytealg.IndexByteString"], apart := false, narrowed := true }
def FnExactSkeletonOfUptoSaid : Prop := fnExactSkeletonOfUptoRow.holds Try.pinned (OpenSpec.upto fnExactSkeletonOfSpec)

end Rows
end Go.Proofs.Ytnaehnenhnfecaa
