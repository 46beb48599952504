/-
  DERIVED. GIVEN WITH THE SEED: THE CARDS: each row of YtjgpngeifgcidaaDoorRows.lean that lists a variable, with what it lists TIED to the program's text (the seventh form; the later family's looks); each row that meets fmt, with fmt's text TOLD by the authors' own Lean function (tested against real Go, not proved from fmt's source: count such statements apart). THE CARD IS WHAT COUNTS. Prove the row's statement (the work); the ties are given (YtjgpngeifgcidaaDoorTie.lean); close each card by the builder's one call (the guide's Derived/Test/ToyasCard.lean, 'card_holds'). Laid BY PROGRAM, IN A SANDBOX (cutbox-door.mjs). By AI agents, Wed Nov 11 2026. No macro, syntax, notation, axiom, sorry.
-/
import Derived.Test.YtjgpngeifgcidaaDoorRows
import GoSem.ClaimSeven
namespace Go.Proofs.YtjgpngeifgcidaaDoor
namespace Rows

/-- THE TIED CARD OF 'laws.FnExactPitchName'. -/
def fnExactPitchNameCard : Claim7 := { stood := { row := fnExactPitchNameRow, standIns := [], harness := (true, "114ece7887761cd18d5ba173f8676a8bf2811bb9d03425487ac23c6d082930ab"), looks := false }, kinds := [], alts := [], laidByText := true, laidKinds := [.data, .data, .data], laidTests := true, laidLooks := .later }
def FnExactPitchNameCardSaid : Prop := Claim7.holds Tryd.pinned (.plain (OpenSpec.ofChange fnExactPitchNameSpec)) fnExactPitchNameCard

/-- THE TIED CARD OF 'laws.FnExactInstrumentText'. -/
def fnExactInstrumentTextCard : Claim7 := { stood := { row := fnExactInstrumentTextRow, standIns := [], harness := (true, "114ece7887761cd18d5ba173f8676a8bf2811bb9d03425487ac23c6d082930ab"), looks := false }, kinds := [], alts := [], laidByText := true, laidKinds := [.data, .data, .data], laidTests := true, laidLooks := .later }
def FnExactInstrumentTextCardSaid : Prop := Claim7.holds Tryd.pinned (.plain (OpenSpec.ofChange fnExactInstrumentTextSpec)) fnExactInstrumentTextCard

/-- THE SECOND FORM's CARD OF 'laws.FnExactPitchName'. -/
def fnExactPitchNameUptoCard : Claim7 := { stood := { row := fnExactPitchNameUptoRow, standIns := [], harness := (true, "114ece7887761cd18d5ba173f8676a8bf2811bb9d03425487ac23c6d082930ab"), looks := false }, kinds := [], alts := [], laidByText := true, laidKinds := [.data, .data, .data], laidTests := true, laidLooks := .later }
def FnExactPitchNameUptoCardSaid : Prop := Claim7.holds Tryd.pinned (.plain (OpenSpec.upto fnExactPitchNameSpec)) fnExactPitchNameUptoCard

/-- THE SECOND FORM's CARD OF 'laws.FnExactInstrumentText'. -/
def fnExactInstrumentTextUptoCard : Claim7 := { stood := { row := fnExactInstrumentTextUptoRow, standIns := [], harness := (true, "114ece7887761cd18d5ba173f8676a8bf2811bb9d03425487ac23c6d082930ab"), looks := false }, kinds := [], alts := [], laidByText := true, laidKinds := [.data, .data, .data], laidTests := true, laidLooks := .later }
def FnExactInstrumentTextUptoCardSaid : Prop := Claim7.holds Tryd.pinned (.plain (OpenSpec.upto fnExactInstrumentTextSpec)) fnExactInstrumentTextUptoCard
end Rows
end Go.Proofs.YtjgpngeifgcidaaDoor
