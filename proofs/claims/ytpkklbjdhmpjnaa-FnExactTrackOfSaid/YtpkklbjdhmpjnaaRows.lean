/-
  No cell of these rows narrows 'for every input' (looked for: loops, veiled, ifaces, maps, wideKeys, modest, calm, conditions, laid).
  DERIVED. THE GIVEN ROWS OF THIS SEAT. 11 by the template 'for every input the law returns true; each argument reads behind the call as it read before'; 0 by the template 'total and deterministic' (their statements: YtpkklbjdhmpjnaaTotals.lean).
  GIVEN WITH THE SEED: the statements are not yours to turn. If you find one false, say at which input.
  Laid BY PROGRAM, IN A SANDBOX (cutbox-rows.mjs): the forced cells as the released guide's own fill.sh prints them over the translation d79b02996601fa6c… (all of the seat's roots in one cut). By AI agents, Wed Nov 11 2026. No macro, syntax, notation, axiom, sorry.
-/
import Derived.Test.YtpkklbjdhmpjnaaChecked
import GoSem.Claim
import GoSem.ClaimJoined
import GoSem.ClaimMapViews
import Derived.JoinedTies
import Derived.KernelRfl
namespace Go.Proofs.Ytpkklbjdhmpjnaa
/- THE CELL 'sum', in the pinned program and in every row, IS THE sha256 OF THE DUMP (.gsa) THAT YtpkklbjdhmpjnaaProg.lean LOADS. Nothing in Lean hashes anything: it is a label: what it is worth is what the hold of that sum in a sandbox is worth. -/
noncomputable def Try.pinned : Pinned := { name := "ytpkklbjdhmpjnaa", sum := "d79b02996601fa6c019d201621c4554fea142e8c1a3e15f409b59c865e0970e6", checked := Try.checked }
namespace Rows
def none {H : Type} : Left H := { results := [], args := [] }

/-- 'laws.FnExactConstants': WHATEVER THE INPUT: true; the input reads as it did. -/
def fnExactConstantsSpec : ChangeSpec := { name := "fnExactConstants", fn := fun _ => fun
  | [] => { results := [.lit (.bool true)], args := [] }
  | _ => none }
def fnExactConstantsRow : OpenClaim := { program := "ytpkklbjdhmpjnaa", sum := "d79b02996601fa6c019d201621c4554fea142e8c1a3e15f409b59c865e0970e6", func := "loop.example/g00949/laws.FnExactConstants", spec := "fnExactConstants", apart := false }
def FnExactConstantsSaid : Prop := fnExactConstantsRow.holds Try.pinned (OpenSpec.ofChange fnExactConstantsSpec)

/-- ITS FALSE NEIGHBOUR: 'it returns false'. Refute it at one input. -/
def fnExactConstantsWrong : ChangeSpec := { name := "fnExactConstants", fn := fun _ => fun
  | [] => { results := [.lit (.bool false)], args := [] }
  | _ => none }
def FnExactConstantsWrongFalsely : Prop := fnExactConstantsRow.holds Try.pinned (OpenSpec.ofChange fnExactConstantsWrong)

/-- 'laws.FnExactIsHole': WHATEVER THE INPUT: true; the input reads as it did. -/
def fnExactIsHoleSpec : ChangeSpec := { name := "fnExactIsHole", fn := fun _ => fun
  | [d] => { results := [.lit (.bool true)], args := [d] }
  | _ => none }
def fnExactIsHoleRow : OpenClaim := { program := "ytpkklbjdhmpjnaa", sum := "d79b02996601fa6c019d201621c4554fea142e8c1a3e15f409b59c865e0970e6", func := "loop.example/g00949/laws.FnExactIsHole", spec := "fnExactIsHole", apart := false }
def FnExactIsHoleSaid : Prop := fnExactIsHoleRow.holds Try.pinned (OpenSpec.ofChange fnExactIsHoleSpec)

/-- ITS FALSE NEIGHBOUR: 'it returns false'. Refute it at one input. -/
def fnExactIsHoleWrong : ChangeSpec := { name := "fnExactIsHole", fn := fun _ => fun
  | [d] => { results := [.lit (.bool false)], args := [d] }
  | _ => none }
def FnExactIsHoleWrongFalsely : Prop := fnExactIsHoleRow.holds Try.pinned (OpenSpec.ofChange fnExactIsHoleWrong)

/-- 'laws.FnExactIsNote': WHATEVER THE INPUT: true; the input reads as it did. -/
def fnExactIsNoteSpec : ChangeSpec := { name := "fnExactIsNote", fn := fun _ => fun
  | [d] => { results := [.lit (.bool true)], args := [d] }
  | _ => none }
def fnExactIsNoteRow : OpenClaim := { program := "ytpkklbjdhmpjnaa", sum := "d79b02996601fa6c019d201621c4554fea142e8c1a3e15f409b59c865e0970e6", func := "loop.example/g00949/laws.FnExactIsNote", spec := "fnExactIsNote", apart := false }
def FnExactIsNoteSaid : Prop := fnExactIsNoteRow.holds Try.pinned (OpenSpec.ofChange fnExactIsNoteSpec)

/-- ITS FALSE NEIGHBOUR: 'it returns false'. Refute it at one input. -/
def fnExactIsNoteWrong : ChangeSpec := { name := "fnExactIsNote", fn := fun _ => fun
  | [d] => { results := [.lit (.bool false)], args := [d] }
  | _ => none }
def FnExactIsNoteWrongFalsely : Prop := fnExactIsNoteRow.holds Try.pinned (OpenSpec.ofChange fnExactIsNoteWrong)

/-- 'laws.FnExactAreTempos': WHATEVER THE INPUT: true; the input reads as it did. -/
def fnExactAreTemposSpec : ChangeSpec := { name := "fnExactAreTempos", fn := fun _ => fun
  | [d] => { results := [.lit (.bool true)], args := [d] }
  | _ => none }
def fnExactAreTemposRow : OpenClaim := { program := "ytpkklbjdhmpjnaa", sum := "d79b02996601fa6c019d201621c4554fea142e8c1a3e15f409b59c865e0970e6", func := "loop.example/g00949/laws.FnExactAreTempos", spec := "fnExactAreTempos", apart := false }
def FnExactAreTemposSaid : Prop := fnExactAreTemposRow.holds Try.pinned (OpenSpec.ofChange fnExactAreTemposSpec)

/-- ITS FALSE NEIGHBOUR: 'it returns false'. Refute it at one input. -/
def fnExactAreTemposWrong : ChangeSpec := { name := "fnExactAreTempos", fn := fun _ => fun
  | [d] => { results := [.lit (.bool false)], args := [d] }
  | _ => none }
def FnExactAreTemposWrongFalsely : Prop := fnExactAreTemposRow.holds Try.pinned (OpenSpec.ofChange fnExactAreTemposWrong)

/-- 'laws.FnExactIsInstrument': WHATEVER THE INPUT: true; the input reads as it did. -/
def fnExactIsInstrumentSpec : ChangeSpec := { name := "fnExactIsInstrument", fn := fun _ => fun
  | [d] => { results := [.lit (.bool true)], args := [d] }
  | _ => none }
def fnExactIsInstrumentRow : OpenClaim := { program := "ytpkklbjdhmpjnaa", sum := "d79b02996601fa6c019d201621c4554fea142e8c1a3e15f409b59c865e0970e6", func := "loop.example/g00949/laws.FnExactIsInstrument", spec := "fnExactIsInstrument", apart := false }
def FnExactIsInstrumentSaid : Prop := fnExactIsInstrumentRow.holds Try.pinned (OpenSpec.ofChange fnExactIsInstrumentSpec)

/-- ITS FALSE NEIGHBOUR: 'it returns false'. Refute it at one input. -/
def fnExactIsInstrumentWrong : ChangeSpec := { name := "fnExactIsInstrument", fn := fun _ => fun
  | [d] => { results := [.lit (.bool false)], args := [d] }
  | _ => none }
def FnExactIsInstrumentWrongFalsely : Prop := fnExactIsInstrumentRow.holds Try.pinned (OpenSpec.ofChange fnExactIsInstrumentWrong)

/-- 'laws.FnExactPitchOf': WHATEVER THE INPUT: true; the input reads as it did. -/
def fnExactPitchOfSpec : ChangeSpec := { name := "fnExactPitchOf", fn := fun _ => fun
  | [d1, d2] => { results := [.lit (.bool true)], args := [d1, d2] }
  | _ => none }
def fnExactPitchOfRow : OpenClaim := { program := "ytpkklbjdhmpjnaa", sum := "d79b02996601fa6c019d201621c4554fea142e8c1a3e15f409b59c865e0970e6", func := "loop.example/g00949/laws.FnExactPitchOf", spec := "fnExactPitchOf", apart := false }
def FnExactPitchOfSaid : Prop := fnExactPitchOfRow.holds Try.pinned (OpenSpec.ofChange fnExactPitchOfSpec)

/-- ITS FALSE NEIGHBOUR: 'it returns false'. Refute it at one input. -/
def fnExactPitchOfWrong : ChangeSpec := { name := "fnExactPitchOf", fn := fun _ => fun
  | [d1, d2] => { results := [.lit (.bool false)], args := [d1, d2] }
  | _ => none }
def FnExactPitchOfWrongFalsely : Prop := fnExactPitchOfRow.holds Try.pinned (OpenSpec.ofChange fnExactPitchOfWrong)

/-- 'laws.FnExactIsSheet': WHATEVER THE INPUT: true; the input reads as it did. -/
def fnExactIsSheetSpec : ChangeSpec := { name := "fnExactIsSheet", fn := fun _ => fun
  | [d] => { results := [.lit (.bool true)], args := [d] }
  | _ => none }
def fnExactIsSheetRow : OpenClaim := { program := "ytpkklbjdhmpjnaa", sum := "d79b02996601fa6c019d201621c4554fea142e8c1a3e15f409b59c865e0970e6", func := "loop.example/g00949/laws.FnExactIsSheet", spec := "fnExactIsSheet", apart := false }
def FnExactIsSheetSaid : Prop := fnExactIsSheetRow.holds Try.pinned (OpenSpec.ofChange fnExactIsSheetSpec)

/-- ITS FALSE NEIGHBOUR: 'it returns false'. Refute it at one input. -/
def fnExactIsSheetWrong : ChangeSpec := { name := "fnExactIsSheet", fn := fun _ => fun
  | [d] => { results := [.lit (.bool false)], args := [d] }
  | _ => none }
def FnExactIsSheetWrongFalsely : Prop := fnExactIsSheetRow.holds Try.pinned (OpenSpec.ofChange fnExactIsSheetWrong)

/-- 'laws.FnExactIsScore': WHATEVER THE INPUT: true; the input reads as it did. -/
def fnExactIsScoreSpec : ChangeSpec := { name := "fnExactIsScore", fn := fun _ => fun
  | [d] => { results := [.lit (.bool true)], args := [d] }
  | _ => none }
def fnExactIsScoreRow : OpenClaim := { program := "ytpkklbjdhmpjnaa", sum := "d79b02996601fa6c019d201621c4554fea142e8c1a3e15f409b59c865e0970e6", func := "loop.example/g00949/laws.FnExactIsScore", spec := "fnExactIsScore", apart := false }
def FnExactIsScoreSaid : Prop := fnExactIsScoreRow.holds Try.pinned (OpenSpec.ofChange fnExactIsScoreSpec)

/-- ITS FALSE NEIGHBOUR: 'it returns false'. Refute it at one input. -/
def fnExactIsScoreWrong : ChangeSpec := { name := "fnExactIsScore", fn := fun _ => fun
  | [d] => { results := [.lit (.bool false)], args := [d] }
  | _ => none }
def FnExactIsScoreWrongFalsely : Prop := fnExactIsScoreRow.holds Try.pinned (OpenSpec.ofChange fnExactIsScoreWrong)

/-- 'laws.FnExactTempoAt': WHATEVER THE INPUT: true; the input reads as it did. -/
def fnExactTempoAtSpec : ChangeSpec := { name := "fnExactTempoAt", fn := fun _ => fun
  | [d1, d2] => { results := [.lit (.bool true)], args := [d1, d2] }
  | _ => none }
def fnExactTempoAtRow : OpenClaim := { program := "ytpkklbjdhmpjnaa", sum := "d79b02996601fa6c019d201621c4554fea142e8c1a3e15f409b59c865e0970e6", func := "loop.example/g00949/laws.FnExactTempoAt", spec := "fnExactTempoAt", apart := false }
def FnExactTempoAtSaid : Prop := fnExactTempoAtRow.holds Try.pinned (OpenSpec.ofChange fnExactTempoAtSpec)

/-- ITS FALSE NEIGHBOUR: 'it returns false'. Refute it at one input. -/
def fnExactTempoAtWrong : ChangeSpec := { name := "fnExactTempoAt", fn := fun _ => fun
  | [d1, d2] => { results := [.lit (.bool false)], args := [d1, d2] }
  | _ => none }
def FnExactTempoAtWrongFalsely : Prop := fnExactTempoAtRow.holds Try.pinned (OpenSpec.ofChange fnExactTempoAtWrong)

/-- 'laws.FnExactIsVoice': WHATEVER THE INPUT: true; the input reads as it did. -/
def fnExactIsVoiceSpec : ChangeSpec := { name := "fnExactIsVoice", fn := fun _ => fun
  | [d] => { results := [.lit (.bool true)], args := [d] }
  | _ => none }
def fnExactIsVoiceRow : OpenClaim := { program := "ytpkklbjdhmpjnaa", sum := "d79b02996601fa6c019d201621c4554fea142e8c1a3e15f409b59c865e0970e6", func := "loop.example/g00949/laws.FnExactIsVoice", spec := "fnExactIsVoice", apart := false }
def FnExactIsVoiceSaid : Prop := fnExactIsVoiceRow.holds Try.pinned (OpenSpec.ofChange fnExactIsVoiceSpec)

/-- ITS FALSE NEIGHBOUR: 'it returns false'. Refute it at one input. -/
def fnExactIsVoiceWrong : ChangeSpec := { name := "fnExactIsVoice", fn := fun _ => fun
  | [d] => { results := [.lit (.bool false)], args := [d] }
  | _ => none }
def FnExactIsVoiceWrongFalsely : Prop := fnExactIsVoiceRow.holds Try.pinned (OpenSpec.ofChange fnExactIsVoiceWrong)

/-- 'laws.FnExactTrackOf': WHATEVER THE INPUT: true; the input reads as it did. -/
def fnExactTrackOfSpec : ChangeSpec := { name := "fnExactTrackOf", fn := fun _ => fun
  | [d1, d2] => { results := [.lit (.bool true)], args := [d1, d2] }
  | _ => none }
def fnExactTrackOfRow : OpenClaim := { program := "ytpkklbjdhmpjnaa", sum := "d79b02996601fa6c019d201621c4554fea142e8c1a3e15f409b59c865e0970e6", func := "loop.example/g00949/laws.FnExactTrackOf", spec := "fnExactTrackOf", apart := false }
def FnExactTrackOfSaid : Prop := fnExactTrackOfRow.holds Try.pinned (OpenSpec.ofChange fnExactTrackOfSpec)

/-- ITS FALSE NEIGHBOUR: 'it returns false'. Refute it at one input. -/
def fnExactTrackOfWrong : ChangeSpec := { name := "fnExactTrackOf", fn := fun _ => fun
  | [d1, d2] => { results := [.lit (.bool false)], args := [d1, d2] }
  | _ => none }
def FnExactTrackOfWrongFalsely : Prop := fnExactTrackOfRow.holds Try.pinned (OpenSpec.ofChange fnExactTrackOfWrong)

/- THE SECOND FORM. 'bulk': how many values and letters a reading holds, each counted each time it is reached (what is shared counts as often as it is met; a slice's spare places count too). A statement '..UptoSaid' is the law's where the arguments, and the package variables that the reading takes, are together of bulk at most 1048576: NARROWER than '..Said'. Prove '..Said' where nothing that the law and all that it calls make is longer than what came in: it says more and counts as full. Else prove '..UptoSaid'. A law counts once. -/
mutual
def uptoBulk {H : Type} : DataW H → Nat
  | .lit (.string bytes) => bytes.length + 1
  | .lit _ => 1
  | .nil => 1
  | .ptr d => uptoBulk d + 1
  | .slice elems spare => uptoBulkAll elems + uptoBulkAll spare + 1
  | .agg parts => uptoBulkAll parts + 1
  | .iface _ d => uptoBulk d + 1
  | .map entries => uptoBulkEntries entries + 1
  | .held _ => 1
def uptoBulkAll {H : Type} : List (DataW H) → Nat
  | [] => 0
  | d :: r => uptoBulk d + uptoBulkAll r
def uptoBulkEntries {H : Type} : List (Lit × DataW H) → Nat
  | [] => 0
  | x :: r => uptoBulkEntry x + uptoBulkEntries r
def uptoBulkEntry {H : Type} : Lit × DataW H → Nat
  | (.string bytes, d) => bytes.length + uptoBulk d + 1
  | (_, d) => uptoBulk d + 1
 end
def uptoSmall : (H : Type) → List (DataW H) → Bool := fun _ ds => decide (uptoBulkAll ds ≤ 1048576)
def OpenSpec.upto (s : _root_.Go.ChangeSpec) : _root_.Go.OpenSpec := { _root_.Go.OpenSpec.ofChange s with cond := some uptoSmall }

/-- 'laws.FnExactConstants', WHERE WHAT IT READS IS OF BULK AT MOST 1048576: true; the input reads as it did. -/
def fnExactConstantsUptoRow : OpenClaim := { program := "ytpkklbjdhmpjnaa", sum := "d79b02996601fa6c019d201621c4554fea142e8c1a3e15f409b59c865e0970e6", func := "loop.example/g00949/laws.FnExactConstants", spec := "fnExactConstants", apart := false, narrowed := true }
def FnExactConstantsUptoSaid : Prop := fnExactConstantsUptoRow.holds Try.pinned (OpenSpec.upto fnExactConstantsSpec)

/-- 'laws.FnExactIsHole', WHERE WHAT IT READS IS OF BULK AT MOST 1048576: true; the input reads as it did. -/
def fnExactIsHoleUptoRow : OpenClaim := { program := "ytpkklbjdhmpjnaa", sum := "d79b02996601fa6c019d201621c4554fea142e8c1a3e15f409b59c865e0970e6", func := "loop.example/g00949/laws.FnExactIsHole", spec := "fnExactIsHole", apart := false, narrowed := true }
def FnExactIsHoleUptoSaid : Prop := fnExactIsHoleUptoRow.holds Try.pinned (OpenSpec.upto fnExactIsHoleSpec)

/-- 'laws.FnExactIsNote', WHERE WHAT IT READS IS OF BULK AT MOST 1048576: true; the input reads as it did. -/
def fnExactIsNoteUptoRow : OpenClaim := { program := "ytpkklbjdhmpjnaa", sum := "d79b02996601fa6c019d201621c4554fea142e8c1a3e15f409b59c865e0970e6", func := "loop.example/g00949/laws.FnExactIsNote", spec := "fnExactIsNote", apart := false, narrowed := true }
def FnExactIsNoteUptoSaid : Prop := fnExactIsNoteUptoRow.holds Try.pinned (OpenSpec.upto fnExactIsNoteSpec)

/-- 'laws.FnExactAreTempos', WHERE WHAT IT READS IS OF BULK AT MOST 1048576: true; the input reads as it did. -/
def fnExactAreTemposUptoRow : OpenClaim := { program := "ytpkklbjdhmpjnaa", sum := "d79b02996601fa6c019d201621c4554fea142e8c1a3e15f409b59c865e0970e6", func := "loop.example/g00949/laws.FnExactAreTempos", spec := "fnExactAreTempos", apart := false, narrowed := true }
def FnExactAreTemposUptoSaid : Prop := fnExactAreTemposUptoRow.holds Try.pinned (OpenSpec.upto fnExactAreTemposSpec)

/-- 'laws.FnExactIsInstrument', WHERE WHAT IT READS IS OF BULK AT MOST 1048576: true; the input reads as it did. -/
def fnExactIsInstrumentUptoRow : OpenClaim := { program := "ytpkklbjdhmpjnaa", sum := "d79b02996601fa6c019d201621c4554fea142e8c1a3e15f409b59c865e0970e6", func := "loop.example/g00949/laws.FnExactIsInstrument", spec := "fnExactIsInstrument", apart := false, narrowed := true }
def FnExactIsInstrumentUptoSaid : Prop := fnExactIsInstrumentUptoRow.holds Try.pinned (OpenSpec.upto fnExactIsInstrumentSpec)

/-- 'laws.FnExactPitchOf', WHERE WHAT IT READS IS OF BULK AT MOST 1048576: true; the input reads as it did. -/
def fnExactPitchOfUptoRow : OpenClaim := { program := "ytpkklbjdhmpjnaa", sum := "d79b02996601fa6c019d201621c4554fea142e8c1a3e15f409b59c865e0970e6", func := "loop.example/g00949/laws.FnExactPitchOf", spec := "fnExactPitchOf", apart := false, narrowed := true }
def FnExactPitchOfUptoSaid : Prop := fnExactPitchOfUptoRow.holds Try.pinned (OpenSpec.upto fnExactPitchOfSpec)

/-- 'laws.FnExactIsSheet', WHERE WHAT IT READS IS OF BULK AT MOST 1048576: true; the input reads as it did. -/
def fnExactIsSheetUptoRow : OpenClaim := { program := "ytpkklbjdhmpjnaa", sum := "d79b02996601fa6c019d201621c4554fea142e8c1a3e15f409b59c865e0970e6", func := "loop.example/g00949/laws.FnExactIsSheet", spec := "fnExactIsSheet", apart := false, narrowed := true }
def FnExactIsSheetUptoSaid : Prop := fnExactIsSheetUptoRow.holds Try.pinned (OpenSpec.upto fnExactIsSheetSpec)

/-- 'laws.FnExactIsScore', WHERE WHAT IT READS IS OF BULK AT MOST 1048576: true; the input reads as it did. -/
def fnExactIsScoreUptoRow : OpenClaim := { program := "ytpkklbjdhmpjnaa", sum := "d79b02996601fa6c019d201621c4554fea142e8c1a3e15f409b59c865e0970e6", func := "loop.example/g00949/laws.FnExactIsScore", spec := "fnExactIsScore", apart := false, narrowed := true }
def FnExactIsScoreUptoSaid : Prop := fnExactIsScoreUptoRow.holds Try.pinned (OpenSpec.upto fnExactIsScoreSpec)

/-- 'laws.FnExactTempoAt', WHERE WHAT IT READS IS OF BULK AT MOST 1048576: true; the input reads as it did. -/
def fnExactTempoAtUptoRow : OpenClaim := { program := "ytpkklbjdhmpjnaa", sum := "d79b02996601fa6c019d201621c4554fea142e8c1a3e15f409b59c865e0970e6", func := "loop.example/g00949/laws.FnExactTempoAt", spec := "fnExactTempoAt", apart := false, narrowed := true }
def FnExactTempoAtUptoSaid : Prop := fnExactTempoAtUptoRow.holds Try.pinned (OpenSpec.upto fnExactTempoAtSpec)

/-- 'laws.FnExactIsVoice', WHERE WHAT IT READS IS OF BULK AT MOST 1048576: true; the input reads as it did. -/
def fnExactIsVoiceUptoRow : OpenClaim := { program := "ytpkklbjdhmpjnaa", sum := "d79b02996601fa6c019d201621c4554fea142e8c1a3e15f409b59c865e0970e6", func := "loop.example/g00949/laws.FnExactIsVoice", spec := "fnExactIsVoice", apart := false, narrowed := true }
def FnExactIsVoiceUptoSaid : Prop := fnExactIsVoiceUptoRow.holds Try.pinned (OpenSpec.upto fnExactIsVoiceSpec)

/-- 'laws.FnExactTrackOf', WHERE WHAT IT READS IS OF BULK AT MOST 1048576: true; the input reads as it did. -/
def fnExactTrackOfUptoRow : OpenClaim := { program := "ytpkklbjdhmpjnaa", sum := "d79b02996601fa6c019d201621c4554fea142e8c1a3e15f409b59c865e0970e6", func := "loop.example/g00949/laws.FnExactTrackOf", spec := "fnExactTrackOf", apart := false, narrowed := true }
def FnExactTrackOfUptoSaid : Prop := fnExactTrackOfUptoRow.holds Try.pinned (OpenSpec.upto fnExactTrackOfSpec)

end Rows
end Go.Proofs.Ytpkklbjdhmpjnaa
