/-
  No cell of these rows narrows 'for every input' (looked for: loops, veiled, ifaces, maps, wideKeys, modest, calm, conditions, laid).
  DERIVED. THE GIVEN ROWS OF THIS SEAT. 4 by the template 'for every input the law returns true; each argument reads behind the call as it read before'; 0 by the template 'total and deterministic' (their statements: YtnnineobacckgaaTotals.lean).
  GIVEN WITH THE SEED: the statements are not yours to turn. If you find one false, say at which input.
  Laid BY PROGRAM, IN A SANDBOX (cutbox-rows.mjs): the forced cells as the released guide's own fill.sh prints them over the translation 86ad0bcb1bd633f3… (all of the seat's roots in one cut). By AI agents, Wed Nov 11 2026. No macro, syntax, notation, axiom, sorry.
-/
import Derived.Test.YtnnineobacckgaaChecked
import GoSem.Claim
import GoSem.ClaimJoined
import GoSem.ClaimMapViews
import Derived.JoinedTies
import Derived.KernelRfl
namespace Go.Proofs.Ytnnineobacckgaa
/- THE CELL 'sum', in the pinned program and in every row, IS THE sha256 OF THE DUMP (.gsa) THAT YtnnineobacckgaaProg.lean LOADS. Nothing in Lean hashes anything: it is a label: what it is worth is what the hold of that sum in a sandbox is worth. -/
noncomputable def Try.pinned : Pinned := { name := "ytnnineobacckgaa", sum := "86ad0bcb1bd633f3c4822a93b42794fde517a9fb853a47b167f67d08b3e26c34", checked := Try.checked }
namespace Rows
def none {H : Type} : Left H := { results := [], args := [] }

/-- 'laws.FnExactFootingsOf': WHATEVER THE INPUT: true; the input reads as it did. -/
def fnExactFootingsOfSpec : ChangeSpec := { name := "fnExactFootingsOf", fn := fun _ => fun
  | [d] => { results := [.lit (.bool true)], args := [d] }
  | _ => none }
def fnExactFootingsOfRow : OpenClaim := { program := "ytnnineobacckgaa", sum := "86ad0bcb1bd633f3c4822a93b42794fde517a9fb853a47b167f67d08b3e26c34", func := "loop.example/g02080/laws.FnExactFootingsOf", spec := "fnExactFootingsOf", unfollowed := true, recurses := true, apart := false }
def FnExactFootingsOfSaid : Prop := fnExactFootingsOfRow.holds Try.pinned (OpenSpec.ofChange fnExactFootingsOfSpec)

/-- ITS FALSE NEIGHBOUR: 'it returns false'. Refute it at one input. -/
def fnExactFootingsOfWrong : ChangeSpec := { name := "fnExactFootingsOf", fn := fun _ => fun
  | [d] => { results := [.lit (.bool false)], args := [d] }
  | _ => none }
def FnExactFootingsOfWrongFalsely : Prop := fnExactFootingsOfRow.holds Try.pinned (OpenSpec.ofChange fnExactFootingsOfWrong)

/-- 'laws.FnExactFootingsFor': WHATEVER THE INPUT: true; the input reads as it did. -/
def fnExactFootingsForSpec : ChangeSpec := { name := "fnExactFootingsFor", fn := fun _ => fun
  | [d] => { results := [.lit (.bool true)], args := [d] }
  | _ => none }
def fnExactFootingsForRow : OpenClaim := { program := "ytnnineobacckgaa", sum := "86ad0bcb1bd633f3c4822a93b42794fde517a9fb853a47b167f67d08b3e26c34", func := "loop.example/g02080/laws.FnExactFootingsFor", spec := "fnExactFootingsFor", unfollowed := true, recurses := true, apart := false }
def FnExactFootingsForSaid : Prop := fnExactFootingsForRow.holds Try.pinned (OpenSpec.ofChange fnExactFootingsForSpec)

/-- ITS FALSE NEIGHBOUR: 'it returns false'. Refute it at one input. -/
def fnExactFootingsForWrong : ChangeSpec := { name := "fnExactFootingsFor", fn := fun _ => fun
  | [d] => { results := [.lit (.bool false)], args := [d] }
  | _ => none }
def FnExactFootingsForWrongFalsely : Prop := fnExactFootingsForRow.holds Try.pinned (OpenSpec.ofChange fnExactFootingsForWrong)

/-- 'laws.FnExactGenerate': WHATEVER THE INPUT: true; the input reads as it did. -/
def fnExactGenerateSpec : ChangeSpec := { name := "fnExactGenerate", fn := fun _ => fun
  | [d] => { results := [.lit (.bool true)], args := [d] }
  | _ => none }
def fnExactGenerateRow : OpenClaim := { program := "ytnnineobacckgaa", sum := "86ad0bcb1bd633f3c4822a93b42794fde517a9fb853a47b167f67d08b3e26c34", func := "loop.example/g02080/laws.FnExactGenerate", spec := "fnExactGenerate", inPlace := ["internal/bytealg.IndexByteString"], unfollowed := true, recurses := true, apart := false }
def FnExactGenerateSaid : Prop := fnExactGenerateRow.holds Try.pinned (OpenSpec.ofChange fnExactGenerateSpec)

/-- ITS FALSE NEIGHBOUR: 'it returns false'. Refute it at one input. -/
def fnExactGenerateWrong : ChangeSpec := { name := "fnExactGenerate", fn := fun _ => fun
  | [d] => { results := [.lit (.bool false)], args := [d] }
  | _ => none }
def FnExactGenerateWrongFalsely : Prop := fnExactGenerateRow.holds Try.pinned (OpenSpec.ofChange fnExactGenerateWrong)

/-- 'laws.FnExactCountCandidates': WHATEVER THE INPUT: true; the input reads as it did. -/
def fnExactCountCandidatesSpec : ChangeSpec := { name := "fnExactCountCandidates", fn := fun _ => fun
  | [d] => { results := [.lit (.bool true)], args := [d] }
  | _ => none }
def fnExactCountCandidatesRow : OpenClaim := { program := "ytnnineobacckgaa", sum := "86ad0bcb1bd633f3c4822a93b42794fde517a9fb853a47b167f67d08b3e26c34", func := "loop.example/g02080/laws.FnExactCountCandidates", spec := "fnExactCountCandidates", inPlace := ["internal/bytealg.IndexByteString"], unfollowed := true, recurses := true, apart := false }
def FnExactCountCandidatesSaid : Prop := fnExactCountCandidatesRow.holds Try.pinned (OpenSpec.ofChange fnExactCountCandidatesSpec)

/-- ITS FALSE NEIGHBOUR: 'it returns false'. Refute it at one input. -/
def fnExactCountCandidatesWrong : ChangeSpec := { name := "fnExactCountCandidates", fn := fun _ => fun
  | [d] => { results := [.lit (.bool false)], args := [d] }
  | _ => none }
def FnExactCountCandidatesWrongFalsely : Prop := fnExactCountCandidatesRow.holds Try.pinned (OpenSpec.ofChange fnExactCountCandidatesWrong)

/- THE SECOND FORM. 'bulk': how many values and letters a reading holds, each counted each time it is reached (what is shared counts as often as it is met; a slice's spare places count too). A statement '..UptoSaid' is the law's where the arguments, and the package variables that the reading takes, are together of bulk at most 1048576: NARROWER than '..Said'. Prove '..Said' where nothing that the law and all that it calls make is longer than what came in: it says more and counts as full. Else prove '..UptoSaid'. A law counts once. -/
mutual
def uptoBulk {H : Type} : DataW H → Nat
  | .lit (.string bytes) => bytes.length + 1
  | .lit _ => 1
  | .nil => 1
  | .ptr d => uptoBulk d + 1
  | .slice elems spare => uptoBulkAll elems + uptoBulkAll spare + 1
  | .agg parts => uptoBulkAll parts + 1
  | .iface _ d => uptoBulk d + 1
  | .map entries => uptoBulkEntries entries + 1
  | .held _ => 1
def uptoBulkAll {H : Type} : List (DataW H) → Nat
  | [] => 0
  | d :: r => uptoBulk d + uptoBulkAll r
def uptoBulkEntries {H : Type} : List (Lit × DataW H) → Nat
  | [] => 0
  | x :: r => uptoBulkEntry x + uptoBulkEntries r
def uptoBulkEntry {H : Type} : Lit × DataW H → Nat
  | (.string bytes, d) => bytes.length + uptoBulk d + 1
  | (_, d) => uptoBulk d + 1
 end
def uptoSmall : (H : Type) → List (DataW H) → Bool := fun _ ds => decide (uptoBulkAll ds ≤ 1048576)
def OpenSpec.upto (s : _root_.Go.ChangeSpec) : _root_.Go.OpenSpec := { _root_.Go.OpenSpec.ofChange s with cond := some uptoSmall }

/-- 'laws.FnExactFootingsOf', WHERE WHAT IT READS IS OF BULK AT MOST 1048576: true; the input reads as it did. -/
def fnExactFootingsOfUptoRow : OpenClaim := { program := "ytnnineobacckgaa", sum := "86ad0bcb1bd633f3c4822a93b42794fde517a9fb853a47b167f67d08b3e26c34", func := "loop.example/g02080/laws.FnExactFootingsOf", spec := "fnExactFootingsOf", unfollowed := true, recurses := true, apart := false, narrowed := true }
def FnExactFootingsOfUptoSaid : Prop := fnExactFootingsOfUptoRow.holds Try.pinned (OpenSpec.upto fnExactFootingsOfSpec)

/-- 'laws.FnExactFootingsFor', WHERE WHAT IT READS IS OF BULK AT MOST 1048576: true; the input reads as it did. -/
def fnExactFootingsForUptoRow : OpenClaim := { program := "ytnnineobacckgaa", sum := "86ad0bcb1bd633f3c4822a93b42794fde517a9fb853a47b167f67d08b3e26c34", func := "loop.example/g02080/laws.FnExactFootingsFor", spec := "fnExactFootingsFor", unfollowed := true, recurses := true, apart := false, narrowed := true }
def FnExactFootingsForUptoSaid : Prop := fnExactFootingsForUptoRow.holds Try.pinned (OpenSpec.upto fnExactFootingsForSpec)

/-- 'laws.FnExactGenerate', WHERE WHAT IT READS IS OF BULK AT MOST 1048576: true; the input reads as it did. -/
def fnExactGenerateUptoRow : OpenClaim := { program := "ytnnineobacckgaa", sum := "86ad0bcb1bd633f3c4822a93b42794fde517a9fb853a47b167f67d08b3e26c34", func := "loop.example/g02080/laws.FnExactGenerate", spec := "fnExactGenerate", inPlace := ["internal/bytealg.IndexByteString"], unfollowed := true, recurses := true, apart := false, narrowed := true }
def FnExactGenerateUptoSaid : Prop := fnExactGenerateUptoRow.holds Try.pinned (OpenSpec.upto fnExactGenerateSpec)

/-- 'laws.FnExactCountCandidates', WHERE WHAT IT READS IS OF BULK AT MOST 1048576: true; the input reads as it did. -/
def fnExactCountCandidatesUptoRow : OpenClaim := { program := "ytnnineobacckgaa", sum := "86ad0bcb1bd633f3c4822a93b42794fde517a9fb853a47b167f67d08b3e26c34", func := "loop.example/g02080/laws.FnExactCountCandidates", spec := "fnExactCountCandidates", inPlace := ["internal/bytealg.IndexByteString"], unfollowed := true, recurses := true, apart := false, narrowed := true }
def FnExactCountCandidatesUptoSaid : Prop := fnExactCountCandidatesUptoRow.holds Try.pinned (OpenSpec.upto fnExactCountCandidatesSpec)

end Rows
end Go.Proofs.Ytnnineobacckgaa
