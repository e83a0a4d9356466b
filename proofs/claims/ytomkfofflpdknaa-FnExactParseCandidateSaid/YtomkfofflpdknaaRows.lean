/-
  No cell of these rows narrows 'for every input' (looked for: loops, veiled, ifaces, maps, wideKeys, modest, calm, conditions, laid).
  DERIVED. THE GIVEN ROWS OF THIS SEAT. 10 by the template 'for every input the law returns true; each argument reads behind the call as it read before'; 0 by the template 'total and deterministic' (their statements: YtomkfofflpdknaaTotals.lean).
  GIVEN WITH THE SEED: the statements are not yours to turn. If you find one false, say at which input.
  Laid BY PROGRAM, IN A SANDBOX (cutbox-rows.mjs): the forced cells as the released guide's own fill.sh prints them over the translation 2ae8fc4565dcabe7… (all of the seat's roots in one cut). By AI agents, Wed Nov 11 2026. No macro, syntax, notation, axiom, sorry.
-/
import Derived.Test.YtomkfofflpdknaaChecked
import GoSem.Claim
import GoSem.ClaimJoined
import GoSem.ClaimMapViews
import Derived.JoinedTies
import Derived.KernelRfl
namespace Go.Proofs.Ytomkfofflpdknaa
/- THE CELL 'sum', in the pinned program and in every row, IS THE sha256 OF THE DUMP (.gsa) THAT YtomkfofflpdknaaProg.lean LOADS. Nothing in Lean hashes anything: it is a label: what it is worth is what the hold of that sum in a sandbox is worth. -/
noncomputable def Try.pinned : Pinned := { name := "ytomkfofflpdknaa", sum := "2ae8fc4565dcabe7c6813dbf29999d38e935faa8b8bc7be4f2bbcefd70f99074", checked := Try.checked }
namespace Rows
def none {H : Type} : Left H := { results := [], args := [] }

/-- 'laws.FnExactFootingsOf': WHATEVER THE INPUT: true; the input reads as it did. -/
def fnExactFootingsOfSpec : ChangeSpec := { name := "fnExactFootingsOf", fn := fun _ => fun
  | [d] => { results := [.lit (.bool true)], args := [d] }
  | _ => none }
def fnExactFootingsOfRow : OpenClaim := { program := "ytomkfofflpdknaa", sum := "2ae8fc4565dcabe7c6813dbf29999d38e935faa8b8bc7be4f2bbcefd70f99074", func := "loop.example/g02080/laws.FnExactFootingsOf", spec := "fnExactFootingsOf", unfollowed := true, recurses := true, apart := false }
def FnExactFootingsOfSaid : Prop := fnExactFootingsOfRow.holds Try.pinned (OpenSpec.ofChange fnExactFootingsOfSpec)

/-- ITS FALSE NEIGHBOUR: 'it returns false'. Refute it at one input. -/
def fnExactFootingsOfWrong : ChangeSpec := { name := "fnExactFootingsOf", fn := fun _ => fun
  | [d] => { results := [.lit (.bool false)], args := [d] }
  | _ => none }
def FnExactFootingsOfWrongFalsely : Prop := fnExactFootingsOfRow.holds Try.pinned (OpenSpec.ofChange fnExactFootingsOfWrong)

/-- 'laws.FnExactFootMarks': WHATEVER THE INPUT: true; the input reads as it did. -/
def fnExactFootMarksSpec : ChangeSpec := { name := "fnExactFootMarks", fn := fun _ => fun
  | [d] => { results := [.lit (.bool true)], args := [d] }
  | _ => none }
def fnExactFootMarksRow : OpenClaim := { program := "ytomkfofflpdknaa", sum := "2ae8fc4565dcabe7c6813dbf29999d38e935faa8b8bc7be4f2bbcefd70f99074", func := "loop.example/g02080/laws.FnExactFootMarks", spec := "fnExactFootMarks", apart := false }
def FnExactFootMarksSaid : Prop := fnExactFootMarksRow.holds Try.pinned (OpenSpec.ofChange fnExactFootMarksSpec)

/-- ITS FALSE NEIGHBOUR: 'it returns false'. Refute it at one input. -/
def fnExactFootMarksWrong : ChangeSpec := { name := "fnExactFootMarks", fn := fun _ => fun
  | [d] => { results := [.lit (.bool false)], args := [d] }
  | _ => none }
def FnExactFootMarksWrongFalsely : Prop := fnExactFootMarksRow.holds Try.pinned (OpenSpec.ofChange fnExactFootMarksWrong)

/-- 'laws.FnExactIsCandidate': WHATEVER THE INPUT: true; the input reads as it did. -/
def fnExactIsCandidateSpec : ChangeSpec := { name := "fnExactIsCandidate", fn := fun _ => fun
  | [d] => { results := [.lit (.bool true)], args := [d] }
  | _ => none }
def fnExactIsCandidateRow : OpenClaim := { program := "ytomkfofflpdknaa", sum := "2ae8fc4565dcabe7c6813dbf29999d38e935faa8b8bc7be4f2bbcefd70f99074", func := "loop.example/g02080/laws.FnExactIsCandidate", spec := "fnExactIsCandidate", inPlace := ["internal/bytealg.IndexByteString"], apart := false }
def FnExactIsCandidateSaid : Prop := fnExactIsCandidateRow.holds Try.pinned (OpenSpec.ofChange fnExactIsCandidateSpec)

/-- ITS FALSE NEIGHBOUR: 'it returns false'. Refute it at one input. -/
def fnExactIsCandidateWrong : ChangeSpec := { name := "fnExactIsCandidate", fn := fun _ => fun
  | [d] => { results := [.lit (.bool false)], args := [d] }
  | _ => none }
def FnExactIsCandidateWrongFalsely : Prop := fnExactIsCandidateRow.holds Try.pinned (OpenSpec.ofChange fnExactIsCandidateWrong)

/-- 'laws.FnExactSyllablesOf': WHATEVER THE INPUT: true; the input reads as it did. -/
def fnExactSyllablesOfSpec : ChangeSpec := { name := "fnExactSyllablesOf", fn := fun _ => fun
  | [d] => { results := [.lit (.bool true)], args := [d] }
  | _ => none }
def fnExactSyllablesOfRow : OpenClaim := { program := "ytomkfofflpdknaa", sum := "2ae8fc4565dcabe7c6813dbf29999d38e935faa8b8bc7be4f2bbcefd70f99074", func := "loop.example/g02080/laws.FnExactSyllablesOf", spec := "fnExactSyllablesOf", inPlace := ["internal/bytealg.IndexByteString"], apart := false }
def FnExactSyllablesOfSaid : Prop := fnExactSyllablesOfRow.holds Try.pinned (OpenSpec.ofChange fnExactSyllablesOfSpec)

/-- ITS FALSE NEIGHBOUR: 'it returns false'. Refute it at one input. -/
def fnExactSyllablesOfWrong : ChangeSpec := { name := "fnExactSyllablesOf", fn := fun _ => fun
  | [d] => { results := [.lit (.bool false)], args := [d] }
  | _ => none }
def FnExactSyllablesOfWrongFalsely : Prop := fnExactSyllablesOfRow.holds Try.pinned (OpenSpec.ofChange fnExactSyllablesOfWrong)

/-- 'laws.FnExactInputOf': WHATEVER THE INPUT: true; the input reads as it did. -/
def fnExactInputOfSpec : ChangeSpec := { name := "fnExactInputOf", fn := fun _ => fun
  | [d] => { results := [.lit (.bool true)], args := [d] }
  | _ => none }
def fnExactInputOfRow : OpenClaim := { program := "ytomkfofflpdknaa", sum := "2ae8fc4565dcabe7c6813dbf29999d38e935faa8b8bc7be4f2bbcefd70f99074", func := "loop.example/g02080/laws.FnExactInputOf", spec := "fnExactInputOf", inPlace := ["internal/bytealg.IndexByteString"], apart := false }
def FnExactInputOfSaid : Prop := fnExactInputOfRow.holds Try.pinned (OpenSpec.ofChange fnExactInputOfSpec)

/-- ITS FALSE NEIGHBOUR: 'it returns false'. Refute it at one input. -/
def fnExactInputOfWrong : ChangeSpec := { name := "fnExactInputOf", fn := fun _ => fun
  | [d] => { results := [.lit (.bool false)], args := [d] }
  | _ => none }
def FnExactInputOfWrongFalsely : Prop := fnExactInputOfRow.holds Try.pinned (OpenSpec.ofChange fnExactInputOfWrong)

/-- 'laws.FnExactOutputOf': WHATEVER THE INPUT: true; the input reads as it did. -/
def fnExactOutputOfSpec : ChangeSpec := { name := "fnExactOutputOf", fn := fun _ => fun
  | [d] => { results := [.lit (.bool true)], args := [d] }
  | _ => none }
def fnExactOutputOfRow : OpenClaim := { program := "ytomkfofflpdknaa", sum := "2ae8fc4565dcabe7c6813dbf29999d38e935faa8b8bc7be4f2bbcefd70f99074", func := "loop.example/g02080/laws.FnExactOutputOf", spec := "fnExactOutputOf", inPlace := ["internal/bytealg.IndexByteString"], apart := false }
def FnExactOutputOfSaid : Prop := fnExactOutputOfRow.holds Try.pinned (OpenSpec.ofChange fnExactOutputOfSpec)

/-- ITS FALSE NEIGHBOUR: 'it returns false'. Refute it at one input. -/
def fnExactOutputOfWrong : ChangeSpec := { name := "fnExactOutputOf", fn := fun _ => fun
  | [d] => { results := [.lit (.bool false)], args := [d] }
  | _ => none }
def FnExactOutputOfWrongFalsely : Prop := fnExactOutputOfRow.holds Try.pinned (OpenSpec.ofChange fnExactOutputOfWrong)

/-- 'laws.FnExactGenerate': WHATEVER THE INPUT: true; the input reads as it did. -/
def fnExactGenerateSpec : ChangeSpec := { name := "fnExactGenerate", fn := fun _ => fun
  | [d] => { results := [.lit (.bool true)], args := [d] }
  | _ => none }
def fnExactGenerateRow : OpenClaim := { program := "ytomkfofflpdknaa", sum := "2ae8fc4565dcabe7c6813dbf29999d38e935faa8b8bc7be4f2bbcefd70f99074", func := "loop.example/g02080/laws.FnExactGenerate", spec := "fnExactGenerate", inPlace := ["internal/bytealg.IndexByteString"], unfollowed := true, recurses := true, apart := false }
def FnExactGenerateSaid : Prop := fnExactGenerateRow.holds Try.pinned (OpenSpec.ofChange fnExactGenerateSpec)

/-- ITS FALSE NEIGHBOUR: 'it returns false'. Refute it at one input. -/
def fnExactGenerateWrong : ChangeSpec := { name := "fnExactGenerate", fn := fun _ => fun
  | [d] => { results := [.lit (.bool false)], args := [d] }
  | _ => none }
def FnExactGenerateWrongFalsely : Prop := fnExactGenerateRow.holds Try.pinned (OpenSpec.ofChange fnExactGenerateWrong)

/-- 'laws.FnExactFormatCandidate': WHATEVER THE INPUT: true; the input reads as it did. -/
def fnExactFormatCandidateSpec : ChangeSpec := { name := "fnExactFormatCandidate", fn := fun _ => fun
  | [d] => { results := [.lit (.bool true)], args := [d] }
  | _ => none }
def fnExactFormatCandidateRow : OpenClaim := { program := "ytomkfofflpdknaa", sum := "2ae8fc4565dcabe7c6813dbf29999d38e935faa8b8bc7be4f2bbcefd70f99074", func := "loop.example/g02080/laws.FnExactFormatCandidate", spec := "fnExactFormatCandidate", inPlace := ["internal/bytealg.IndexByteString"], apart := false }
def FnExactFormatCandidateSaid : Prop := fnExactFormatCandidateRow.holds Try.pinned (OpenSpec.ofChange fnExactFormatCandidateSpec)

/-- ITS FALSE NEIGHBOUR: 'it returns false'. Refute it at one input. -/
def fnExactFormatCandidateWrong : ChangeSpec := { name := "fnExactFormatCandidate", fn := fun _ => fun
  | [d] => { results := [.lit (.bool false)], args := [d] }
  | _ => none }
def FnExactFormatCandidateWrongFalsely : Prop := fnExactFormatCandidateRow.holds Try.pinned (OpenSpec.ofChange fnExactFormatCandidateWrong)

/-- 'laws.FnExactParseCandidate': WHATEVER THE INPUT: true; the input reads as it did. -/
def fnExactParseCandidateSpec : ChangeSpec := { name := "fnExactParseCandidate", fn := fun _ => fun
  | [d] => { results := [.lit (.bool true)], args := [d] }
  | _ => none }
def fnExactParseCandidateRow : OpenClaim := { program := "ytomkfofflpdknaa", sum := "2ae8fc4565dcabe7c6813dbf29999d38e935faa8b8bc7be4f2bbcefd70f99074", func := "loop.example/g02080/laws.FnExactParseCandidate", spec := "fnExactParseCandidate", inPlace := ["internal/bytealg.IndexByteString"], apart := false }
def FnExactParseCandidateSaid : Prop := fnExactParseCandidateRow.holds Try.pinned (OpenSpec.ofChange fnExactParseCandidateSpec)

/-- ITS FALSE NEIGHBOUR: 'it returns false'. Refute it at one input. -/
def fnExactParseCandidateWrong : ChangeSpec := { name := "fnExactParseCandidate", fn := fun _ => fun
  | [d] => { results := [.lit (.bool false)], args := [d] }
  | _ => none }
def FnExactParseCandidateWrongFalsely : Prop := fnExactParseCandidateRow.holds Try.pinned (OpenSpec.ofChange fnExactParseCandidateWrong)

/-- 'laws.FnExactFootingsFor': WHATEVER THE INPUT: true; the input reads as it did. -/
def fnExactFootingsForSpec : ChangeSpec := { name := "fnExactFootingsFor", fn := fun _ => fun
  | [d] => { results := [.lit (.bool true)], args := [d] }
  | _ => none }
def fnExactFootingsForRow : OpenClaim := { program := "ytomkfofflpdknaa", sum := "2ae8fc4565dcabe7c6813dbf29999d38e935faa8b8bc7be4f2bbcefd70f99074", func := "loop.example/g02080/laws.FnExactFootingsFor", spec := "fnExactFootingsFor", unfollowed := true, recurses := true, apart := false }
def FnExactFootingsForSaid : Prop := fnExactFootingsForRow.holds Try.pinned (OpenSpec.ofChange fnExactFootingsForSpec)

/-- ITS FALSE NEIGHBOUR: 'it returns false'. Refute it at one input. -/
def fnExactFootingsForWrong : ChangeSpec := { name := "fnExactFootingsFor", fn := fun _ => fun
  | [d] => { results := [.lit (.bool false)], args := [d] }
  | _ => none }
def FnExactFootingsForWrongFalsely : Prop := fnExactFootingsForRow.holds Try.pinned (OpenSpec.ofChange fnExactFootingsForWrong)

/- THE SECOND FORM. 'bulk': how many values and letters a reading holds, each counted each time it is reached (what is shared counts as often as it is met; a slice's spare places count too). A statement '..UptoSaid' is the law's where the arguments, and the package variables that the reading takes, are together of bulk at most 1048576: NARROWER than '..Said'. Prove '..Said' where nothing that the law and all that it calls make is longer than what came in: it says more and counts as full. Else prove '..UptoSaid'. A law counts once. -/
mutual
def uptoBulk {H : Type} : DataW H → Nat
  | .lit (.string bytes) => bytes.length + 1
  | .lit _ => 1
  | .nil => 1
  | .ptr d => uptoBulk d + 1
  | .slice elems spare => uptoBulkAll elems + uptoBulkAll spare + 1
  | .agg parts => uptoBulkAll parts + 1
  | .iface _ d => uptoBulk d + 1
  | .map entries => uptoBulkEntries entries + 1
  | .held _ => 1
def uptoBulkAll {H : Type} : List (DataW H) → Nat
  | [] => 0
  | d :: r => uptoBulk d + uptoBulkAll r
def uptoBulkEntries {H : Type} : List (Lit × DataW H) → Nat
  | [] => 0
  | x :: r => uptoBulkEntry x + uptoBulkEntries r
def uptoBulkEntry {H : Type} : Lit × DataW H → Nat
  | (.string bytes, d) => bytes.length + uptoBulk d + 1
  | (_, d) => uptoBulk d + 1
 end
def uptoSmall : (H : Type) → List (DataW H) → Bool := fun _ ds => decide (uptoBulkAll ds ≤ 1048576)
def OpenSpec.upto (s : _root_.Go.ChangeSpec) : _root_.Go.OpenSpec := { _root_.Go.OpenSpec.ofChange s with cond := some uptoSmall }

/-- 'laws.FnExactFootingsOf', WHERE WHAT IT READS IS OF BULK AT MOST 1048576: true; the input reads as it did. -/
def fnExactFootingsOfUptoRow : OpenClaim := { program := "ytomkfofflpdknaa", sum := "2ae8fc4565dcabe7c6813dbf29999d38e935faa8b8bc7be4f2bbcefd70f99074", func := "loop.example/g02080/laws.FnExactFootingsOf", spec := "fnExactFootingsOf", unfollowed := true, recurses := true, apart := false, narrowed := true }
def FnExactFootingsOfUptoSaid : Prop := fnExactFootingsOfUptoRow.holds Try.pinned (OpenSpec.upto fnExactFootingsOfSpec)

/-- 'laws.FnExactFootMarks', WHERE WHAT IT READS IS OF BULK AT MOST 1048576: true; the input reads as it did. -/
def fnExactFootMarksUptoRow : OpenClaim := { program := "ytomkfofflpdknaa", sum := "2ae8fc4565dcabe7c6813dbf29999d38e935faa8b8bc7be4f2bbcefd70f99074", func := "loop.example/g02080/laws.FnExactFootMarks", spec := "fnExactFootMarks", apart := false, narrowed := true }
def FnExactFootMarksUptoSaid : Prop := fnExactFootMarksUptoRow.holds Try.pinned (OpenSpec.upto fnExactFootMarksSpec)

/-- 'laws.FnExactIsCandidate', WHERE WHAT IT READS IS OF BULK AT MOST 1048576: true; the input reads as it did. -/
def fnExactIsCandidateUptoRow : OpenClaim := { program := "ytomkfofflpdknaa", sum := "2ae8fc4565dcabe7c6813dbf29999d38e935faa8b8bc7be4f2bbcefd70f99074", func := "loop.example/g02080/laws.FnExactIsCandidate", spec := "fnExactIsCandidate", inPlace := ["internal/bytealg.IndexByteString"], apart := false, narrowed := true }
def FnExactIsCandidateUptoSaid : Prop := fnExactIsCandidateUptoRow.holds Try.pinned (OpenSpec.upto fnExactIsCandidateSpec)

/-- 'laws.FnExactSyllablesOf', WHERE WHAT IT READS IS OF BULK AT MOST 1048576: true; the input reads as it did. -/
def fnExactSyllablesOfUptoRow : OpenClaim := { program := "ytomkfofflpdknaa", sum := "2ae8fc4565dcabe7c6813dbf29999d38e935faa8b8bc7be4f2bbcefd70f99074", func := "loop.example/g02080/laws.FnExactSyllablesOf", spec := "fnExactSyllablesOf", inPlace := ["internal/bytealg.IndexByteString"], apart := false, narrowed := true }
def FnExactSyllablesOfUptoSaid : Prop := fnExactSyllablesOfUptoRow.holds Try.pinned (OpenSpec.upto fnExactSyllablesOfSpec)

/-- 'laws.FnExactInputOf', WHERE WHAT IT READS IS OF BULK AT MOST 1048576: true; the input reads as it did. -/
def fnExactInputOfUptoRow : OpenClaim := { program := "ytomkfofflpdknaa", sum := "2ae8fc4565dcabe7c6813dbf29999d38e935faa8b8bc7be4f2bbcefd70f99074", func := "loop.example/g02080/laws.FnExactInputOf", spec := "fnExactInputOf", inPlace := ["internal/bytealg.IndexByteString"], apart := false, narrowed := true }
def FnExactInputOfUptoSaid : Prop := fnExactInputOfUptoRow.holds Try.pinned (OpenSpec.upto fnExactInputOfSpec)

/-- 'laws.FnExactOutputOf', WHERE WHAT IT READS IS OF BULK AT MOST 1048576: true; the input reads as it did. -/
def fnExactOutputOfUptoRow : OpenClaim := { program := "ytomkfofflpdknaa", sum := "2ae8fc4565dcabe7c6813dbf29999d38e935faa8b8bc7be4f2bbcefd70f99074", func := "loop.example/g02080/laws.FnExactOutputOf", spec := "fnExactOutputOf", inPlace := ["internal/bytealg.IndexByteString"], apart := false, narrowed := true }
def FnExactOutputOfUptoSaid : Prop := fnExactOutputOfUptoRow.holds Try.pinned (OpenSpec.upto fnExactOutputOfSpec)

/-- 'laws.FnExactGenerate', WHERE WHAT IT READS IS OF BULK AT MOST 1048576: true; the input reads as it did. -/
def fnExactGenerateUptoRow : OpenClaim := { program := "ytomkfofflpdknaa", sum := "2ae8fc4565dcabe7c6813dbf29999d38e935faa8b8bc7be4f2bbcefd70f99074", func := "loop.example/g02080/laws.FnExactGenerate", spec := "fnExactGenerate", inPlace := ["internal/bytealg.IndexByteString"], unfollowed := true, recurses := true, apart := false, narrowed := true }
def FnExactGenerateUptoSaid : Prop := fnExactGenerateUptoRow.holds Try.pinned (OpenSpec.upto fnExactGenerateSpec)

/-- 'laws.FnExactFormatCandidate', WHERE WHAT IT READS IS OF BULK AT MOST 1048576: true; the input reads as it did. -/
def fnExactFormatCandidateUptoRow : OpenClaim := { program := "ytomkfofflpdknaa", sum := "2ae8fc4565dcabe7c6813dbf29999d38e935faa8b8bc7be4f2bbcefd70f99074", func := "loop.example/g02080/laws.FnExactFormatCandidate", spec := "fnExactFormatCandidate", inPlace := ["internal/bytealg.IndexByteString"], apart := false, narrowed := true }
def FnExactFormatCandidateUptoSaid : Prop := fnExactFormatCandidateUptoRow.holds Try.pinned (OpenSpec.upto fnExactFormatCandidateSpec)

/-- 'laws.FnExactParseCandidate', WHERE WHAT IT READS IS OF BULK AT MOST 1048576: true; the input reads as it did. -/
def fnExactParseCandidateUptoRow : OpenClaim := { program := "ytomkfofflpdknaa", sum := "2ae8fc4565dcabe7c6813dbf29999d38e935faa8b8bc7be4f2bbcefd70f99074", func := "loop.example/g02080/laws.FnExactParseCandidate", spec := "fnExactParseCandidate", inPlace := ["internal/bytealg.IndexByteString"], apart := false, narrowed := true }
def FnExactParseCandidateUptoSaid : Prop := fnExactParseCandidateUptoRow.holds Try.pinned (OpenSpec.upto fnExactParseCandidateSpec)

/-- 'laws.FnExactFootingsFor', WHERE WHAT IT READS IS OF BULK AT MOST 1048576: true; the input reads as it did. -/
def fnExactFootingsForUptoRow : OpenClaim := { program := "ytomkfofflpdknaa", sum := "2ae8fc4565dcabe7c6813dbf29999d38e935faa8b8bc7be4f2bbcefd70f99074", func := "loop.example/g02080/laws.FnExactFootingsFor", spec := "fnExactFootingsFor", unfollowed := true, recurses := true, apart := false, narrowed := true }
def FnExactFootingsForUptoSaid : Prop := fnExactFootingsForUptoRow.holds Try.pinned (OpenSpec.upto fnExactFootingsForSpec)

end Rows
end Go.Proofs.Ytomkfofflpdknaa
