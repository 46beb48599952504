/-
  No cell of these rows narrows 'for every input' (looked for: loops, veiled, ifaces, maps, wideKeys, modest, calm, conditions, laid).
  DERIVED. THE GIVEN ROWS OF THIS SEAT. 10 by the template 'for every input the law returns true; each argument reads behind the call as it read before'; 0 by the template 'total and deterministic' (their statements: YtjgpngeifgcidaaTotals.lean).
  GIVEN WITH THE SEED: the statements are not yours to turn. If you find one false, say at which input.
  Laid BY PROGRAM, IN A SANDBOX (cutbox-rows.mjs): the forced cells as the released guide's own fill.sh prints them over the translation 9a0e355dd352429c… (all of the seat's roots in one cut). By AI agents, Wed Nov 11 2026. No macro, syntax, notation, axiom, sorry.
-/
import Derived.Test.YtjgpngeifgcidaaChecked
import GoSem.Claim
import GoSem.ClaimJoined
import GoSem.ClaimMapViews
import Derived.JoinedTies
import Derived.KernelRfl
namespace Go.Proofs.Ytjgpngeifgcidaa
/- THE CELL 'sum', in the pinned program and in every row, IS THE sha256 OF THE DUMP (.gsa) THAT YtjgpngeifgcidaaProg.lean LOADS. Nothing in Lean hashes anything: it is a label: what it is worth is what the hold of that sum in a sandbox is worth. -/
noncomputable def Try.pinned : Pinned := { name := "ytjgpngeifgcidaa", sum := "9a0e355dd352429c8a91e5ee9ecd73da8a96ae2322eaa1bb17db5ceeca97d01c", checked := Try.checked }
namespace Rows
def none {H : Type} : Left H := { results := [], args := [] }

/-- 'laws.FnExactTransposeScore': WHATEVER THE INPUT: true; the input reads as it did. -/
def fnExactTransposeScoreSpec : ChangeSpec := { name := "fnExactTransposeScore", fn := fun _ => fun
  | [d1, d2] => { results := [.lit (.bool true)], args := [d1, d2] }
  | _ => none }
def fnExactTransposeScoreRow : OpenClaim := { program := "ytjgpngeifgcidaa", sum := "9a0e355dd352429c8a91e5ee9ecd73da8a96ae2322eaa1bb17db5ceeca97d01c", func := "loop.example/g00949/laws.FnExactTransposeScore", spec := "fnExactTransposeScore", apart := false }
def FnExactTransposeScoreSaid : Prop := fnExactTransposeScoreRow.holds Try.pinned (OpenSpec.ofChange fnExactTransposeScoreSpec)

/-- ITS FALSE NEIGHBOUR: 'it returns false'. Refute it at one input. -/
def fnExactTransposeScoreWrong : ChangeSpec := { name := "fnExactTransposeScore", fn := fun _ => fun
  | [d1, d2] => { results := [.lit (.bool false)], args := [d1, d2] }
  | _ => none }
def FnExactTransposeScoreWrongFalsely : Prop := fnExactTransposeScoreRow.holds Try.pinned (OpenSpec.ofChange fnExactTransposeScoreWrong)

/-- 'laws.FnExactMergeRests': WHATEVER THE INPUT: true; the input reads as it did. -/
def fnExactMergeRestsSpec : ChangeSpec := { name := "fnExactMergeRests", fn := fun _ => fun
  | [d] => { results := [.lit (.bool true)], args := [d] }
  | _ => none }
def fnExactMergeRestsRow : OpenClaim := { program := "ytjgpngeifgcidaa", sum := "9a0e355dd352429c8a91e5ee9ecd73da8a96ae2322eaa1bb17db5ceeca97d01c", func := "loop.example/g00949/laws.FnExactMergeRests", spec := "fnExactMergeRests", apart := false }
def FnExactMergeRestsSaid : Prop := fnExactMergeRestsRow.holds Try.pinned (OpenSpec.ofChange fnExactMergeRestsSpec)

/-- ITS FALSE NEIGHBOUR: 'it returns false'. Refute it at one input. -/
def fnExactMergeRestsWrong : ChangeSpec := { name := "fnExactMergeRests", fn := fun _ => fun
  | [d] => { results := [.lit (.bool false)], args := [d] }
  | _ => none }
def FnExactMergeRestsWrongFalsely : Prop := fnExactMergeRestsRow.holds Try.pinned (OpenSpec.ofChange fnExactMergeRestsWrong)

/-- 'laws.FnExactAddTempo': WHATEVER THE INPUT: true; the input reads as it did. -/
def fnExactAddTempoSpec : ChangeSpec := { name := "fnExactAddTempo", fn := fun _ => fun
  | [d1, d2] => { results := [.lit (.bool true)], args := [d1, d2] }
  | _ => none }
def fnExactAddTempoRow : OpenClaim := { program := "ytjgpngeifgcidaa", sum := "9a0e355dd352429c8a91e5ee9ecd73da8a96ae2322eaa1bb17db5ceeca97d01c", func := "loop.example/g00949/laws.FnExactAddTempo", spec := "fnExactAddTempo", inPlace := ["slices.overlaps[loop.example/g00949/impl.Change]"], apart := false }
def FnExactAddTempoSaid : Prop := fnExactAddTempoRow.holds Try.pinned (OpenSpec.ofChange fnExactAddTempoSpec)

/-- ITS FALSE NEIGHBOUR: 'it returns false'. Refute it at one input. -/
def fnExactAddTempoWrong : ChangeSpec := { name := "fnExactAddTempo", fn := fun _ => fun
  | [d1, d2] => { results := [.lit (.bool false)], args := [d1, d2] }
  | _ => none }
def FnExactAddTempoWrongFalsely : Prop := fnExactAddTempoRow.holds Try.pinned (OpenSpec.ofChange fnExactAddTempoWrong)

/-- 'laws.FnExactCanPlay': WHATEVER THE INPUT: true; the input reads as it did. -/
def fnExactCanPlaySpec : ChangeSpec := { name := "fnExactCanPlay", fn := fun _ => fun
  | [d1, d2] => { results := [.lit (.bool true)], args := [d1, d2] }
  | _ => none }
def fnExactCanPlayRow : OpenClaim := { program := "ytjgpngeifgcidaa", sum := "9a0e355dd352429c8a91e5ee9ecd73da8a96ae2322eaa1bb17db5ceeca97d01c", func := "loop.example/g00949/laws.FnExactCanPlay", spec := "fnExactCanPlay", apart := false }
def FnExactCanPlaySaid : Prop := fnExactCanPlayRow.holds Try.pinned (OpenSpec.ofChange fnExactCanPlaySpec)

/-- ITS FALSE NEIGHBOUR: 'it returns false'. Refute it at one input. -/
def fnExactCanPlayWrong : ChangeSpec := { name := "fnExactCanPlay", fn := fun _ => fun
  | [d1, d2] => { results := [.lit (.bool false)], args := [d1, d2] }
  | _ => none }
def FnExactCanPlayWrongFalsely : Prop := fnExactCanPlayRow.holds Try.pinned (OpenSpec.ofChange fnExactCanPlayWrong)

/-- 'laws.FnExactPlayablePart': WHATEVER THE INPUT: true; the input reads as it did. -/
def fnExactPlayablePartSpec : ChangeSpec := { name := "fnExactPlayablePart", fn := fun _ => fun
  | [d1, d2] => { results := [.lit (.bool true)], args := [d1, d2] }
  | _ => none }
def fnExactPlayablePartRow : OpenClaim := { program := "ytjgpngeifgcidaa", sum := "9a0e355dd352429c8a91e5ee9ecd73da8a96ae2322eaa1bb17db5ceeca97d01c", func := "loop.example/g00949/laws.FnExactPlayablePart", spec := "fnExactPlayablePart", apart := false }
def FnExactPlayablePartSaid : Prop := fnExactPlayablePartRow.holds Try.pinned (OpenSpec.ofChange fnExactPlayablePartSpec)

/-- ITS FALSE NEIGHBOUR: 'it returns false'. Refute it at one input. -/
def fnExactPlayablePartWrong : ChangeSpec := { name := "fnExactPlayablePart", fn := fun _ => fun
  | [d1, d2] => { results := [.lit (.bool false)], args := [d1, d2] }
  | _ => none }
def FnExactPlayablePartWrongFalsely : Prop := fnExactPlayablePartRow.holds Try.pinned (OpenSpec.ofChange fnExactPlayablePartWrong)

/-- 'laws.FnExactQuantiseVoice': WHATEVER THE INPUT: true; the input reads as it did. -/
def fnExactQuantiseVoiceSpec : ChangeSpec := { name := "fnExactQuantiseVoice", fn := fun _ => fun
  | [d1, d2] => { results := [.lit (.bool true)], args := [d1, d2] }
  | _ => none }
def fnExactQuantiseVoiceRow : OpenClaim := { program := "ytjgpngeifgcidaa", sum := "9a0e355dd352429c8a91e5ee9ecd73da8a96ae2322eaa1bb17db5ceeca97d01c", func := "loop.example/g00949/laws.FnExactQuantiseVoice", spec := "fnExactQuantiseVoice", apart := false }
def FnExactQuantiseVoiceSaid : Prop := fnExactQuantiseVoiceRow.holds Try.pinned (OpenSpec.ofChange fnExactQuantiseVoiceSpec)

/-- ITS FALSE NEIGHBOUR: 'it returns false'. Refute it at one input. -/
def fnExactQuantiseVoiceWrong : ChangeSpec := { name := "fnExactQuantiseVoice", fn := fun _ => fun
  | [d1, d2] => { results := [.lit (.bool false)], args := [d1, d2] }
  | _ => none }
def FnExactQuantiseVoiceWrongFalsely : Prop := fnExactQuantiseVoiceRow.holds Try.pinned (OpenSpec.ofChange fnExactQuantiseVoiceWrong)

/-- 'laws.FnExactFastRepeats': WHATEVER THE INPUT: true; the input reads as it did. -/
def fnExactFastRepeatsSpec : ChangeSpec := { name := "fnExactFastRepeats", fn := fun _ => fun
  | [d1, d2] => { results := [.lit (.bool true)], args := [d1, d2] }
  | _ => none }
def fnExactFastRepeatsRow : OpenClaim := { program := "ytjgpngeifgcidaa", sum := "9a0e355dd352429c8a91e5ee9ecd73da8a96ae2322eaa1bb17db5ceeca97d01c", func := "loop.example/g00949/laws.FnExactFastRepeats", spec := "fnExactFastRepeats", apart := false }
def FnExactFastRepeatsSaid : Prop := fnExactFastRepeatsRow.holds Try.pinned (OpenSpec.ofChange fnExactFastRepeatsSpec)

/-- ITS FALSE NEIGHBOUR: 'it returns false'. Refute it at one input. -/
def fnExactFastRepeatsWrong : ChangeSpec := { name := "fnExactFastRepeats", fn := fun _ => fun
  | [d1, d2] => { results := [.lit (.bool false)], args := [d1, d2] }
  | _ => none }
def FnExactFastRepeatsWrongFalsely : Prop := fnExactFastRepeatsRow.holds Try.pinned (OpenSpec.ofChange fnExactFastRepeatsWrong)

/-- 'laws.FnExactJoinScores': WHATEVER THE INPUT: true; the input reads as it did. -/
def fnExactJoinScoresSpec : ChangeSpec := { name := "fnExactJoinScores", fn := fun _ => fun
  | [d1, d2] => { results := [.lit (.bool true)], args := [d1, d2] }
  | _ => none }
def fnExactJoinScoresRow : OpenClaim := { program := "ytjgpngeifgcidaa", sum := "9a0e355dd352429c8a91e5ee9ecd73da8a96ae2322eaa1bb17db5ceeca97d01c", func := "loop.example/g00949/laws.FnExactJoinScores", spec := "fnExactJoinScores", inPlace := ["internal/reflectlite.ValueOf", "internal/reflectlite.Swapper", "(internal/reflectlite.Value).Len"], unfollowed := true, recurses := true, apart := false }
def FnExactJoinScoresSaid : Prop := fnExactJoinScoresRow.holds Try.pinned (OpenSpec.ofChange fnExactJoinScoresSpec)

/-- ITS FALSE NEIGHBOUR: 'it returns false'. Refute it at one input. -/
def fnExactJoinScoresWrong : ChangeSpec := { name := "fnExactJoinScores", fn := fun _ => fun
  | [d1, d2] => { results := [.lit (.bool false)], args := [d1, d2] }
  | _ => none }
def FnExactJoinScoresWrongFalsely : Prop := fnExactJoinScoresRow.holds Try.pinned (OpenSpec.ofChange fnExactJoinScoresWrong)

/-- 'laws.FnExactSortNotes': WHATEVER THE INPUT: true; the input reads as it did. -/
def fnExactSortNotesSpec : ChangeSpec := { name := "fnExactSortNotes", fn := fun _ => fun
  | [d] => { results := [.lit (.bool true)], args := [d] }
  | _ => none }
def fnExactSortNotesRow : OpenClaim := { program := "ytjgpngeifgcidaa", sum := "9a0e355dd352429c8a91e5ee9ecd73da8a96ae2322eaa1bb17db5ceeca97d01c", func := "loop.example/g00949/laws.FnExactSortNotes", spec := "fnExactSortNotes", inPlace := ["internal/reflectlite.ValueOf", "internal/reflectlite.Swapper", "(internal/reflectlite.Value).Len"], unfollowed := true, recurses := true, apart := false }
def FnExactSortNotesSaid : Prop := fnExactSortNotesRow.holds Try.pinned (OpenSpec.ofChange fnExactSortNotesSpec)

/-- ITS FALSE NEIGHBOUR: 'it returns false'. Refute it at one input. -/
def fnExactSortNotesWrong : ChangeSpec := { name := "fnExactSortNotes", fn := fun _ => fun
  | [d] => { results := [.lit (.bool false)], args := [d] }
  | _ => none }
def FnExactSortNotesWrongFalsely : Prop := fnExactSortNotesRow.holds Try.pinned (OpenSpec.ofChange fnExactSortNotesWrong)

/-- 'laws.FnTempos': WHATEVER THE INPUT: true; the input reads as it did. -/
def fnTemposSpec : ChangeSpec := { name := "fnTempos", fn := fun _ => fun
  | [d1, d2] => { results := [.lit (.bool true)], args := [d1, d2] }
  | _ => none }
def fnTemposRow : OpenClaim := { program := "ytjgpngeifgcidaa", sum := "9a0e355dd352429c8a91e5ee9ecd73da8a96ae2322eaa1bb17db5ceeca97d01c", func := "loop.example/g00949/laws.FnTempos", spec := "fnTempos", inPlace := ["slices.overlaps[loop.example/g00949/impl.Change]"], apart := false }
def FnTemposSaid : Prop := fnTemposRow.holds Try.pinned (OpenSpec.ofChange fnTemposSpec)

/-- ITS FALSE NEIGHBOUR: 'it returns false'. Refute it at one input. -/
def fnTemposWrong : ChangeSpec := { name := "fnTempos", fn := fun _ => fun
  | [d1, d2] => { results := [.lit (.bool false)], args := [d1, d2] }
  | _ => none }
def FnTemposWrongFalsely : Prop := fnTemposRow.holds Try.pinned (OpenSpec.ofChange fnTemposWrong)

/- THE SECOND FORM. 'bulk': how many values and letters a reading holds, each counted each time it is reached (what is shared counts as often as it is met; a slice's spare places count too). A statement '..UptoSaid' is the law's where the arguments, and the package variables that the reading takes, are together of bulk at most 1048576: NARROWER than '..Said'. Prove '..Said' where nothing that the law and all that it calls make is longer than what came in: it says more and counts as full. Else prove '..UptoSaid'. A law counts once. -/
mutual
def uptoBulk {H : Type} : DataW H → Nat
  | .lit (.string bytes) => bytes.length + 1
  | .lit _ => 1
  | .nil => 1
  | .ptr d => uptoBulk d + 1
  | .slice elems spare => uptoBulkAll elems + uptoBulkAll spare + 1
  | .agg parts => uptoBulkAll parts + 1
  | .iface _ d => uptoBulk d + 1
  | .map entries => uptoBulkEntries entries + 1
  | .held _ => 1
def uptoBulkAll {H : Type} : List (DataW H) → Nat
  | [] => 0
  | d :: r => uptoBulk d + uptoBulkAll r
def uptoBulkEntries {H : Type} : List (Lit × DataW H) → Nat
  | [] => 0
  | x :: r => uptoBulkEntry x + uptoBulkEntries r
def uptoBulkEntry {H : Type} : Lit × DataW H → Nat
  | (.string bytes, d) => bytes.length + uptoBulk d + 1
  | (_, d) => uptoBulk d + 1
 end
def uptoSmall : (H : Type) → List (DataW H) → Bool := fun _ ds => decide (uptoBulkAll ds ≤ 1048576)
def OpenSpec.upto (s : _root_.Go.ChangeSpec) : _root_.Go.OpenSpec := { _root_.Go.OpenSpec.ofChange s with cond := some uptoSmall }

/-- 'laws.FnExactTransposeScore', WHERE WHAT IT READS IS OF BULK AT MOST 1048576: true; the input reads as it did. -/
def fnExactTransposeScoreUptoRow : OpenClaim := { program := "ytjgpngeifgcidaa", sum := "9a0e355dd352429c8a91e5ee9ecd73da8a96ae2322eaa1bb17db5ceeca97d01c", func := "loop.example/g00949/laws.FnExactTransposeScore", spec := "fnExactTransposeScore", apart := false, narrowed := true }
def FnExactTransposeScoreUptoSaid : Prop := fnExactTransposeScoreUptoRow.holds Try.pinned (OpenSpec.upto fnExactTransposeScoreSpec)

/-- 'laws.FnExactMergeRests', WHERE WHAT IT READS IS OF BULK AT MOST 1048576: true; the input reads as it did. -/
def fnExactMergeRestsUptoRow : OpenClaim := { program := "ytjgpngeifgcidaa", sum := "9a0e355dd352429c8a91e5ee9ecd73da8a96ae2322eaa1bb17db5ceeca97d01c", func := "loop.example/g00949/laws.FnExactMergeRests", spec := "fnExactMergeRests", apart := false, narrowed := true }
def FnExactMergeRestsUptoSaid : Prop := fnExactMergeRestsUptoRow.holds Try.pinned (OpenSpec.upto fnExactMergeRestsSpec)

/-- 'laws.FnExactAddTempo', WHERE WHAT IT READS IS OF BULK AT MOST 1048576: true; the input reads as it did. -/
def fnExactAddTempoUptoRow : OpenClaim := { program := "ytjgpngeifgcidaa", sum := "9a0e355dd352429c8a91e5ee9ecd73da8a96ae2322eaa1bb17db5ceeca97d01c", func := "loop.example/g00949/laws.FnExactAddTempo", spec := "fnExactAddTempo", inPlace := ["slices.overlaps[loop.example/g00949/impl.Change]"], apart := false, narrowed := true }
def FnExactAddTempoUptoSaid : Prop := fnExactAddTempoUptoRow.holds Try.pinned (OpenSpec.upto fnExactAddTempoSpec)

/-- 'laws.FnExactCanPlay', WHERE WHAT IT READS IS OF BULK AT MOST 1048576: true; the input reads as it did. -/
def fnExactCanPlayUptoRow : OpenClaim := { program := "ytjgpngeifgcidaa", sum := "9a0e355dd352429c8a91e5ee9ecd73da8a96ae2322eaa1bb17db5ceeca97d01c", func := "loop.example/g00949/laws.FnExactCanPlay", spec := "fnExactCanPlay", apart := false, narrowed := true }
def FnExactCanPlayUptoSaid : Prop := fnExactCanPlayUptoRow.holds Try.pinned (OpenSpec.upto fnExactCanPlaySpec)

/-- 'laws.FnExactPlayablePart', WHERE WHAT IT READS IS OF BULK AT MOST 1048576: true; the input reads as it did. -/
def fnExactPlayablePartUptoRow : OpenClaim := { program := "ytjgpngeifgcidaa", sum := "9a0e355dd352429c8a91e5ee9ecd73da8a96ae2322eaa1bb17db5ceeca97d01c", func := "loop.example/g00949/laws.FnExactPlayablePart", spec := "fnExactPlayablePart", apart := false, narrowed := true }
def FnExactPlayablePartUptoSaid : Prop := fnExactPlayablePartUptoRow.holds Try.pinned (OpenSpec.upto fnExactPlayablePartSpec)

/-- 'laws.FnExactQuantiseVoice', WHERE WHAT IT READS IS OF BULK AT MOST 1048576: true; the input reads as it did. -/
def fnExactQuantiseVoiceUptoRow : OpenClaim := { program := "ytjgpngeifgcidaa", sum := "9a0e355dd352429c8a91e5ee9ecd73da8a96ae2322eaa1bb17db5ceeca97d01c", func := "loop.example/g00949/laws.FnExactQuantiseVoice", spec := "fnExactQuantiseVoice", apart := false, narrowed := true }
def FnExactQuantiseVoiceUptoSaid : Prop := fnExactQuantiseVoiceUptoRow.holds Try.pinned (OpenSpec.upto fnExactQuantiseVoiceSpec)

/-- 'laws.FnExactFastRepeats', WHERE WHAT IT READS IS OF BULK AT MOST 1048576: true; the input reads as it did. -/
def fnExactFastRepeatsUptoRow : OpenClaim := { program := "ytjgpngeifgcidaa", sum := "9a0e355dd352429c8a91e5ee9ecd73da8a96ae2322eaa1bb17db5ceeca97d01c", func := "loop.example/g00949/laws.FnExactFastRepeats", spec := "fnExactFastRepeats", apart := false, narrowed := true }
def FnExactFastRepeatsUptoSaid : Prop := fnExactFastRepeatsUptoRow.holds Try.pinned (OpenSpec.upto fnExactFastRepeatsSpec)

/-- 'laws.FnExactJoinScores', WHERE WHAT IT READS IS OF BULK AT MOST 1048576: true; the input reads as it did. -/
def fnExactJoinScoresUptoRow : OpenClaim := { program := "ytjgpngeifgcidaa", sum := "9a0e355dd352429c8a91e5ee9ecd73da8a96ae2322eaa1bb17db5ceeca97d01c", func := "loop.example/g00949/laws.FnExactJoinScores", spec := "fnExactJoinScores", inPlace := ["internal/reflectlite.ValueOf", "internal/reflectlite.Swapper", "(internal/reflectlite.Value).Len"], unfollowed := true, recurses := true, apart := false, narrowed := true }
def FnExactJoinScoresUptoSaid : Prop := fnExactJoinScoresUptoRow.holds Try.pinned (OpenSpec.upto fnExactJoinScoresSpec)

/-- 'laws.FnExactSortNotes', WHERE WHAT IT READS IS OF BULK AT MOST 1048576: true; the input reads as it did. -/
def fnExactSortNotesUptoRow : OpenClaim := { program := "ytjgpngeifgcidaa", sum := "9a0e355dd352429c8a91e5ee9ecd73da8a96ae2322eaa1bb17db5ceeca97d01c", func := "loop.example/g00949/laws.FnExactSortNotes", spec := "fnExactSortNotes", inPlace := ["internal/reflectlite.ValueOf", "internal/reflectlite.Swapper", "(internal/reflectlite.Value).Len"], unfollowed := true, recurses := true, apart := false, narrowed := true }
def FnExactSortNotesUptoSaid : Prop := fnExactSortNotesUptoRow.holds Try.pinned (OpenSpec.upto fnExactSortNotesSpec)

/-- 'laws.FnTempos', WHERE WHAT IT READS IS OF BULK AT MOST 1048576: true; the input reads as it did. -/
def fnTemposUptoRow : OpenClaim := { program := "ytjgpngeifgcidaa", sum := "9a0e355dd352429c8a91e5ee9ecd73da8a96ae2322eaa1bb17db5ceeca97d01c", func := "loop.example/g00949/laws.FnTempos", spec := "fnTempos", inPlace := ["slices.overlaps[loop.example/g00949/impl.Change]"], apart := false, narrowed := true }
def FnTemposUptoSaid : Prop := fnTemposUptoRow.holds Try.pinned (OpenSpec.upto fnTemposSpec)

end Rows
end Go.Proofs.Ytjgpngeifgcidaa
