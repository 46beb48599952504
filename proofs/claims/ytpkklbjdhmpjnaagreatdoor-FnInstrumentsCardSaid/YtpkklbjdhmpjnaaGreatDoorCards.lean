/-
  DERIVED. GIVEN WITH THE SEED: THE CARDS: each row of YtpkklbjdhmpjnaaGreatDoorRows.lean that lists a variable, with what it lists TIED to the program's text (the seventh form; the later family's looks); each row that meets fmt, with fmt's text TOLD by the authors' own Lean function (tested against real Go, not proved from fmt's source: count such statements apart). THE CARD IS WHAT COUNTS. Prove the row's statement (the work); the ties are given (YtpkklbjdhmpjnaaGreatDoorTie.lean); close each card by the builder's one call (the guide's Derived/Test/ToyasCard.lean, 'card_holds'). Laid BY PROGRAM, IN A SANDBOX (cutbox-door.mjs). By AI agents, Wed Nov 11 2026. No macro, syntax, notation, axiom, sorry.
-/
import Derived.Test.YtpkklbjdhmpjnaaGreatDoorRows
import GoSem.ClaimSeven
namespace Go.Proofs.YtpkklbjdhmpjnaaGreatDoor
namespace Rows

/-- THE TIED CARD OF 'laws.FnInstruments'. -/
def fnInstrumentsCard : Claim7 := { stood := { row := fnInstrumentsRow, standIns := [], harness := (true, "a7060e9651670efcf360431c8d10fb72111099e43e6f317f667049a04debd682"), looks := false }, kinds := [], alts := [], laidByText := true, laidKinds := [.data, .data, .data, .data, .pinned], laidTests := true, laidLooks := .later }
def FnInstrumentsCardSaid : Prop := Claim7.holds Tryz.pinned (.plain (OpenSpec.ofChange fnInstrumentsSpec)) fnInstrumentsCard

/-- THE SECOND FORM's CARD OF 'laws.FnInstruments'. -/
def fnInstrumentsUptoCard : Claim7 := { stood := { row := fnInstrumentsUptoRow, standIns := [], harness := (true, "a7060e9651670efcf360431c8d10fb72111099e43e6f317f667049a04debd682"), looks := false }, kinds := [], alts := [], laidByText := true, laidKinds := [.data, .data, .data, .data, .pinned], laidTests := true, laidLooks := .later }
def FnInstrumentsUptoCardSaid : Prop := Claim7.holds Tryz.pinned (.plain (OpenSpec.upto fnInstrumentsSpec)) fnInstrumentsUptoCard
end Rows
end Go.Proofs.YtpkklbjdhmpjnaaGreatDoor
