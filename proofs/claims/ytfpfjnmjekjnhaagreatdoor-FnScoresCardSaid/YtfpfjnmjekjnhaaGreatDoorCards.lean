/-
  DERIVED. GIVEN WITH THE SEED: THE CARDS: each row of YtfpfjnmjekjnhaaGreatDoorRows.lean that lists a variable, with what it lists TIED to the program's text (the seventh form; the later family's looks); each row that meets fmt, with fmt's text TOLD by the authors' own Lean function (tested against real Go, not proved from fmt's source: count such statements apart). THE CARD IS WHAT COUNTS. Prove the row's statement (the work); the ties are given (YtfpfjnmjekjnhaaGreatDoorTie.lean); close each card by the builder's one call (the guide's Derived/Test/ToyasCard.lean, 'card_holds'). Laid BY PROGRAM, IN A SANDBOX (cutbox-door.mjs). By AI agents, Wed Nov 11 2026. No macro, syntax, notation, axiom, sorry.
-/
import Derived.Test.YtfpfjnmjekjnhaaGreatDoorRows
import GoSem.ClaimSeven
namespace Go.Proofs.YtfpfjnmjekjnhaaGreatDoor
namespace Rows

/-- THE TIED CARD OF 'laws.FnNotes'. -/
def fnNotesCard : Claim7 := { stood := { row := fnNotesRow, standIns := [], harness := (true, "bd7b0de69a113bad6ba6fbf9305b823278ebabe00149e5f4fbd1800308bff3be"), looks := false }, kinds := [], alts := [], laidByText := true, laidKinds := [.data, .data, .data, .data, .pinned], laidTests := true, laidLooks := .later }
def FnNotesCardSaid : Prop := Claim7.holds Tryz.pinned (.plain (OpenSpec.ofChange fnNotesSpec)) fnNotesCard

/-- THE TIED CARD OF 'laws.FnScores'. -/
def fnScoresCard : Claim7 := { stood := { row := fnScoresRow, standIns := [], harness := (true, "bd7b0de69a113bad6ba6fbf9305b823278ebabe00149e5f4fbd1800308bff3be"), looks := false }, kinds := [], alts := [], laidByText := true, laidKinds := [.data, .data, .data, .data, .pinned], laidTests := true, laidLooks := .later }
def FnScoresCardSaid : Prop := Claim7.holds Tryz.pinned (.plain (OpenSpec.ofChange fnScoresSpec)) fnScoresCard

/-- THE SECOND FORM's CARD OF 'laws.FnNotes'. -/
def fnNotesUptoCard : Claim7 := { stood := { row := fnNotesUptoRow, standIns := [], harness := (true, "bd7b0de69a113bad6ba6fbf9305b823278ebabe00149e5f4fbd1800308bff3be"), looks := false }, kinds := [], alts := [], laidByText := true, laidKinds := [.data, .data, .data, .data, .pinned], laidTests := true, laidLooks := .later }
def FnNotesUptoCardSaid : Prop := Claim7.holds Tryz.pinned (.plain (OpenSpec.upto fnNotesSpec)) fnNotesUptoCard

/-- THE SECOND FORM's CARD OF 'laws.FnScores'. -/
def fnScoresUptoCard : Claim7 := { stood := { row := fnScoresUptoRow, standIns := [], harness := (true, "bd7b0de69a113bad6ba6fbf9305b823278ebabe00149e5f4fbd1800308bff3be"), looks := false }, kinds := [], alts := [], laidByText := true, laidKinds := [.data, .data, .data, .data, .pinned], laidTests := true, laidLooks := .later }
def FnScoresUptoCardSaid : Prop := Claim7.holds Tryz.pinned (.plain (OpenSpec.upto fnScoresSpec)) fnScoresUptoCard
end Rows
end Go.Proofs.YtfpfjnmjekjnhaaGreatDoor
