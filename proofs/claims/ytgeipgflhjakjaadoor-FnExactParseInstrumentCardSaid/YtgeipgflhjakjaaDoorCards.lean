/-
  DERIVED. GIVEN WITH THE SEED: THE CARDS: each row of YtgeipgflhjakjaaDoorRows.lean that lists a variable, with what it lists TIED to the program's text (the seventh form; the later family's looks); each row that meets fmt, with fmt's text TOLD by the authors' own Lean function (tested against real Go, not proved from fmt's source: count such statements apart). THE CARD IS WHAT COUNTS. Prove the row's statement (the work); the ties are given (YtgeipgflhjakjaaDoorTie.lean); close each card by the builder's one call (the guide's Derived/Test/ToyasCard.lean, 'card_holds'). Laid BY PROGRAM, IN A SANDBOX (cutbox-door.mjs). By AI agents, Wed Nov 11 2026. No macro, syntax, notation, axiom, sorry.
-/
import Derived.Test.YtgeipgflhjakjaaDoorRows
import GoSem.ClaimSeven
namespace Go.Proofs.YtgeipgflhjakjaaDoor
namespace Rows

/-- THE TIED CARD OF 'laws.FnExactScoreText'. -/
def fnExactScoreTextCard : Claim7 := { stood := { row := fnExactScoreTextRow, standIns := [], harness := (true, "95898919a8fd5a0c1e928a8e5106f973fa350c27e4591a7d26e03857aa5dca4f"), looks := false }, kinds := [], alts := [], laidByText := true, laidKinds := [.data, .data, .data], laidTests := true, laidLooks := .later }
def FnExactScoreTextCardSaid : Prop := Claim7.holds Tryd.pinned (.plain (OpenSpec.ofChange fnExactScoreTextSpec)) fnExactScoreTextCard

/-- THE TIED CARD OF 'laws.FnExactVoiceText'. -/
def fnExactVoiceTextCard : Claim7 := { stood := { row := fnExactVoiceTextRow, standIns := [], harness := (true, "95898919a8fd5a0c1e928a8e5106f973fa350c27e4591a7d26e03857aa5dca4f"), looks := false }, kinds := [], alts := [], laidByText := true, laidKinds := [.data, .data, .data], laidTests := true, laidLooks := .later }
def FnExactVoiceTextCardSaid : Prop := Claim7.holds Tryd.pinned (.plain (OpenSpec.ofChange fnExactVoiceTextSpec)) fnExactVoiceTextCard

/-- THE TIED CARD OF 'laws.FnExactParseInstrument'. -/
def fnExactParseInstrumentCard : Claim7 := { stood := { row := fnExactParseInstrumentRow, standIns := [], harness := (true, "95898919a8fd5a0c1e928a8e5106f973fa350c27e4591a7d26e03857aa5dca4f"), looks := false }, kinds := [], alts := [], laidByText := true, laidKinds := [.data, .data, .data, .data, .pinned], laidTests := true, laidLooks := .later }
def FnExactParseInstrumentCardSaid : Prop := Claim7.holds Tryd.pinned (.plain (OpenSpec.ofChange fnExactParseInstrumentSpec)) fnExactParseInstrumentCard

/-- THE TIED CARD OF 'laws.FnExactParseVoice'. -/
def fnExactParseVoiceCard : Claim7 := { stood := { row := fnExactParseVoiceRow, standIns := [], harness := (true, "95898919a8fd5a0c1e928a8e5106f973fa350c27e4591a7d26e03857aa5dca4f"), looks := false }, kinds := [], alts := [], laidByText := true, laidKinds := [.data, .data, .data, .data, .pinned], laidTests := true, laidLooks := .later }
def FnExactParseVoiceCardSaid : Prop := Claim7.holds Tryd.pinned (.plain (OpenSpec.ofChange fnExactParseVoiceSpec)) fnExactParseVoiceCard

/-- THE TIED CARD OF 'laws.FnExactParseScore'. -/
def fnExactParseScoreCard : Claim7 := { stood := { row := fnExactParseScoreRow, standIns := [], harness := (true, "95898919a8fd5a0c1e928a8e5106f973fa350c27e4591a7d26e03857aa5dca4f"), looks := false }, kinds := [], alts := [], laidByText := true, laidKinds := [.data, .data, .data, .data, .pinned], laidTests := true, laidLooks := .later }
def FnExactParseScoreCardSaid : Prop := Claim7.holds Tryd.pinned (.plain (OpenSpec.ofChange fnExactParseScoreSpec)) fnExactParseScoreCard

/-- THE SECOND FORM's CARD OF 'laws.FnExactScoreText'. -/
def fnExactScoreTextUptoCard : Claim7 := { stood := { row := fnExactScoreTextUptoRow, standIns := [], harness := (true, "95898919a8fd5a0c1e928a8e5106f973fa350c27e4591a7d26e03857aa5dca4f"), looks := false }, kinds := [], alts := [], laidByText := true, laidKinds := [.data, .data, .data], laidTests := true, laidLooks := .later }
def FnExactScoreTextUptoCardSaid : Prop := Claim7.holds Tryd.pinned (.plain (OpenSpec.upto fnExactScoreTextSpec)) fnExactScoreTextUptoCard

/-- THE SECOND FORM's CARD OF 'laws.FnExactVoiceText'. -/
def fnExactVoiceTextUptoCard : Claim7 := { stood := { row := fnExactVoiceTextUptoRow, standIns := [], harness := (true, "95898919a8fd5a0c1e928a8e5106f973fa350c27e4591a7d26e03857aa5dca4f"), looks := false }, kinds := [], alts := [], laidByText := true, laidKinds := [.data, .data, .data], laidTests := true, laidLooks := .later }
def FnExactVoiceTextUptoCardSaid : Prop := Claim7.holds Tryd.pinned (.plain (OpenSpec.upto fnExactVoiceTextSpec)) fnExactVoiceTextUptoCard

/-- THE SECOND FORM's CARD OF 'laws.FnExactParseInstrument'. -/
def fnExactParseInstrumentUptoCard : Claim7 := { stood := { row := fnExactParseInstrumentUptoRow, standIns := [], harness := (true, "95898919a8fd5a0c1e928a8e5106f973fa350c27e4591a7d26e03857aa5dca4f"), looks := false }, kinds := [], alts := [], laidByText := true, laidKinds := [.data, .data, .data, .data, .pinned], laidTests := true, laidLooks := .later }
def FnExactParseInstrumentUptoCardSaid : Prop := Claim7.holds Tryd.pinned (.plain (OpenSpec.upto fnExactParseInstrumentSpec)) fnExactParseInstrumentUptoCard

/-- THE SECOND FORM's CARD OF 'laws.FnExactParseVoice'. -/
def fnExactParseVoiceUptoCard : Claim7 := { stood := { row := fnExactParseVoiceUptoRow, standIns := [], harness := (true, "95898919a8fd5a0c1e928a8e5106f973fa350c27e4591a7d26e03857aa5dca4f"), looks := false }, kinds := [], alts := [], laidByText := true, laidKinds := [.data, .data, .data, .data, .pinned], laidTests := true, laidLooks := .later }
def FnExactParseVoiceUptoCardSaid : Prop := Claim7.holds Tryd.pinned (.plain (OpenSpec.upto fnExactParseVoiceSpec)) fnExactParseVoiceUptoCard

/-- THE SECOND FORM's CARD OF 'laws.FnExactParseScore'. -/
def fnExactParseScoreUptoCard : Claim7 := { stood := { row := fnExactParseScoreUptoRow, standIns := [], harness := (true, "95898919a8fd5a0c1e928a8e5106f973fa350c27e4591a7d26e03857aa5dca4f"), looks := false }, kinds := [], alts := [], laidByText := true, laidKinds := [.data, .data, .data, .data, .pinned], laidTests := true, laidLooks := .later }
def FnExactParseScoreUptoCardSaid : Prop := Claim7.holds Tryd.pinned (.plain (OpenSpec.upto fnExactParseScoreSpec)) fnExactParseScoreUptoCard
end Rows
end Go.Proofs.YtgeipgflhjakjaaDoor
