/-
  DERIVED. GIVEN WITH THE SEED: THE CARDS: each row of YtkjpbhncgjhfeaaDoorRows.lean that lists a variable, with what it lists TIED to the program's text (the seventh form; the later family's looks); each row that meets fmt, with fmt's text TOLD by the authors' own Lean function (tested against real Go, not proved from fmt's source: count such statements apart). THE CARD IS WHAT COUNTS. Prove the row's statement (the work); the ties are given (YtkjpbhncgjhfeaaDoorTie.lean); close each card by the builder's one call (the guide's Derived/Test/ToyasCard.lean, 'card_holds'). Laid BY PROGRAM, IN A SANDBOX (cutbox-door.mjs). By AI agents, Wed Nov 11 2026. No macro, syntax, notation, axiom, sorry.
-/
import Derived.Test.YtkjpbhncgjhfeaaDoorRows
import GoSem.ClaimSeven
namespace Go.Proofs.YtkjpbhncgjhfeaaDoor
namespace Rows

/-- THE TIED CARD OF 'laws.FnFeet'. -/
def fnFeetCard : Claim7 := { stood := { row := fnFeetRow, standIns := [], harness := (true, "5ceb7d82a53d2fe33ab8c0a57810d0e11d1dd973c1383ba0fb10f78b483ed6c0"), looks := true }, kinds := [], alts := [], laidByText := true, laidKinds := [.data, .data, .data], laidTests := true, laidLooks := .later }
def FnFeetCardSaid : Prop := Claim7.holds Tryd.pinned (.plain (OpenSpec.ofChange fnFeetSpec)) fnFeetCard

/-- THE TIED CARD OF 'laws.FnIntegerEncodings'. -/
def fnIntegerEncodingsCard : Claim7 := { stood := { row := fnIntegerEncodingsRow, standIns := [], harness := (true, "5ceb7d82a53d2fe33ab8c0a57810d0e11d1dd973c1383ba0fb10f78b483ed6c0"), looks := true }, kinds := [], alts := [], laidByText := true, laidKinds := [.data, .data, .data, .sentinel, .sentinel], laidTests := true, laidLooks := .later }
def FnIntegerEncodingsCardSaid : Prop := Claim7.holds Tryd.pinned (.plain (OpenSpec.ofChange fnIntegerEncodingsSpec)) fnIntegerEncodingsCard

/-- THE SECOND FORM's CARD OF 'laws.FnFeet'. -/
def fnFeetUptoCard : Claim7 := { stood := { row := fnFeetUptoRow, standIns := [], harness := (true, "5ceb7d82a53d2fe33ab8c0a57810d0e11d1dd973c1383ba0fb10f78b483ed6c0"), looks := true }, kinds := [], alts := [], laidByText := true, laidKinds := [.data, .data, .data], laidTests := true, laidLooks := .later }
def FnFeetUptoCardSaid : Prop := Claim7.holds Tryd.pinned (.plain (OpenSpec.upto fnFeetSpec)) fnFeetUptoCard

/-- THE SECOND FORM's CARD OF 'laws.FnIntegerEncodings'. -/
def fnIntegerEncodingsUptoCard : Claim7 := { stood := { row := fnIntegerEncodingsUptoRow, standIns := [], harness := (true, "5ceb7d82a53d2fe33ab8c0a57810d0e11d1dd973c1383ba0fb10f78b483ed6c0"), looks := true }, kinds := [], alts := [], laidByText := true, laidKinds := [.data, .data, .data, .sentinel, .sentinel], laidTests := true, laidLooks := .later }
def FnIntegerEncodingsUptoCardSaid : Prop := Claim7.holds Tryd.pinned (.plain (OpenSpec.upto fnIntegerEncodingsSpec)) fnIntegerEncodingsUptoCard
end Rows
end Go.Proofs.YtkjpbhncgjhfeaaDoor
