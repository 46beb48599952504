/-
  No cell of these rows narrows 'for every input' (looked for: loops, veiled, ifaces, maps, wideKeys, modest, calm, conditions, laid).
  DERIVED. THE GIVEN ROWS OF THIS SEAT. 5 by the template 'for every input the law returns true; each argument reads behind the call as it read before'; 0 by the template 'total and deterministic' (their statements: YtgeipgflhjakjaaTotals.lean).
  GIVEN WITH THE SEED: the statements are not yours to turn. If you find one false, say at which input.
  Laid BY PROGRAM, IN A SANDBOX (cutbox-rows.mjs): the forced cells as the released guide's own fill.sh prints them over the translation 0300e76b15eed51c… (all of the seat's roots in one cut). By AI agents, Wed Nov 11 2026. No macro, syntax, notation, axiom, sorry.
-/
import Derived.Test.YtgeipgflhjakjaaChecked
import GoSem.Claim
import GoSem.ClaimJoined
import GoSem.ClaimMapViews
import Derived.JoinedTies
import Derived.KernelRfl
namespace Go.Proofs.Ytgeipgflhjakjaa
/- THE CELL 'sum', in the pinned program and in every row, IS THE sha256 OF THE DUMP (.gsa) THAT YtgeipgflhjakjaaProg.lean LOADS. Nothing in Lean hashes anything: it is a label: what it is worth is what the hold of that sum in a sandbox is worth. -/
noncomputable def Try.pinned : Pinned := { name := "ytgeipgflhjakjaa", sum := "0300e76b15eed51c737b18f3a722b06da80a6d96b9fa0d5e10003934d1c1af1e", checked := Try.checked }
namespace Rows
def none {H : Type} : Left H := { results := [], args := [] }

/-- 'laws.FnTempoChanges': WHATEVER THE INPUT: true; the input reads as it did. -/
def fnTempoChangesSpec : ChangeSpec := { name := "fnTempoChanges", fn := fun _ => fun
  | [d1, d2] => { results := [.lit (.bool true)], args := [d1, d2] }
  | _ => none }
def fnTempoChangesRow : OpenClaim := { program := "ytgeipgflhjakjaa", sum := "0300e76b15eed51c737b18f3a722b06da80a6d96b9fa0d5e10003934d1c1af1e", func := "loop.example/g00949/laws.FnTempoChanges", spec := "fnTempoChanges", inPlace := ["slices.overlaps[loop.example/g00949/impl.Change]"], apart := false }
def FnTempoChangesSaid : Prop := fnTempoChangesRow.holds Try.pinned (OpenSpec.ofChange fnTempoChangesSpec)

/-- ITS FALSE NEIGHBOUR: 'it returns false'. Refute it at one input. -/
def fnTempoChangesWrong : ChangeSpec := { name := "fnTempoChanges", fn := fun _ => fun
  | [d1, d2] => { results := [.lit (.bool false)], args := [d1, d2] }
  | _ => none }
def FnTempoChangesWrongFalsely : Prop := fnTempoChangesRow.holds Try.pinned (OpenSpec.ofChange fnTempoChangesWrong)

/-- 'laws.FnExactSoundingAt': WHATEVER THE INPUT: true; the input reads as it did. -/
def fnExactSoundingAtSpec : ChangeSpec := { name := "fnExactSoundingAt", fn := fun _ => fun
  | [d1, d2] => { results := [.lit (.bool true)], args := [d1, d2] }
  | _ => none }
def fnExactSoundingAtRow : OpenClaim := { program := "ytgeipgflhjakjaa", sum := "0300e76b15eed51c737b18f3a722b06da80a6d96b9fa0d5e10003934d1c1af1e", func := "loop.example/g00949/laws.FnExactSoundingAt", spec := "fnExactSoundingAt", recurses := true, apart := false }
def FnExactSoundingAtSaid : Prop := fnExactSoundingAtRow.holds Try.pinned (OpenSpec.ofChange fnExactSoundingAtSpec)

/-- ITS FALSE NEIGHBOUR: 'it returns false'. Refute it at one input. -/
def fnExactSoundingAtWrong : ChangeSpec := { name := "fnExactSoundingAt", fn := fun _ => fun
  | [d1, d2] => { results := [.lit (.bool false)], args := [d1, d2] }
  | _ => none }
def FnExactSoundingAtWrongFalsely : Prop := fnExactSoundingAtRow.holds Try.pinned (OpenSpec.ofChange fnExactSoundingAtWrong)

/-- 'laws.FnExactAddPitch': WHATEVER THE INPUT: true; the input reads as it did. -/
def fnExactAddPitchSpec : ChangeSpec := { name := "fnExactAddPitch", fn := fun _ => fun
  | [d1, d2] => { results := [.lit (.bool true)], args := [d1, d2] }
  | _ => none }
def fnExactAddPitchRow : OpenClaim := { program := "ytgeipgflhjakjaa", sum := "0300e76b15eed51c737b18f3a722b06da80a6d96b9fa0d5e10003934d1c1af1e", func := "loop.example/g00949/laws.FnExactAddPitch", spec := "fnExactAddPitch", recurses := true, apart := false }
def FnExactAddPitchSaid : Prop := fnExactAddPitchRow.holds Try.pinned (OpenSpec.ofChange fnExactAddPitchSpec)

/-- ITS FALSE NEIGHBOUR: 'it returns false'. Refute it at one input. -/
def fnExactAddPitchWrong : ChangeSpec := { name := "fnExactAddPitch", fn := fun _ => fun
  | [d1, d2] => { results := [.lit (.bool false)], args := [d1, d2] }
  | _ => none }
def FnExactAddPitchWrongFalsely : Prop := fnExactAddPitchRow.holds Try.pinned (OpenSpec.ofChange fnExactAddPitchWrong)

/-- 'laws.FnExactMissingPitches': WHATEVER THE INPUT: true; the input reads as it did. -/
def fnExactMissingPitchesSpec : ChangeSpec := { name := "fnExactMissingPitches", fn := fun _ => fun
  | [d1, d2] => { results := [.lit (.bool true)], args := [d1, d2] }
  | _ => none }
def fnExactMissingPitchesRow : OpenClaim := { program := "ytgeipgflhjakjaa", sum := "0300e76b15eed51c737b18f3a722b06da80a6d96b9fa0d5e10003934d1c1af1e", func := "loop.example/g00949/laws.FnExactMissingPitches", spec := "fnExactMissingPitches", recurses := true, apart := false }
def FnExactMissingPitchesSaid : Prop := fnExactMissingPitchesRow.holds Try.pinned (OpenSpec.ofChange fnExactMissingPitchesSpec)

/-- ITS FALSE NEIGHBOUR: 'it returns false'. Refute it at one input. -/
def fnExactMissingPitchesWrong : ChangeSpec := { name := "fnExactMissingPitches", fn := fun _ => fun
  | [d1, d2] => { results := [.lit (.bool false)], args := [d1, d2] }
  | _ => none }
def FnExactMissingPitchesWrongFalsely : Prop := fnExactMissingPitchesRow.holds Try.pinned (OpenSpec.ofChange fnExactMissingPitchesWrong)

/-- 'laws.FnPlayable': WHATEVER THE INPUT: true; the input reads as it did. -/
def fnPlayableSpec : ChangeSpec := { name := "fnPlayable", fn := fun _ => fun
  | [d1, d2] => { results := [.lit (.bool true)], args := [d1, d2] }
  | _ => none }
def fnPlayableRow : OpenClaim := { program := "ytgeipgflhjakjaa", sum := "0300e76b15eed51c737b18f3a722b06da80a6d96b9fa0d5e10003934d1c1af1e", func := "loop.example/g00949/laws.FnPlayable", spec := "fnPlayable", recurses := true, apart := false }
def FnPlayableSaid : Prop := fnPlayableRow.holds Try.pinned (OpenSpec.ofChange fnPlayableSpec)

/-- ITS FALSE NEIGHBOUR: 'it returns false'. Refute it at one input. -/
def fnPlayableWrong : ChangeSpec := { name := "fnPlayable", fn := fun _ => fun
  | [d1, d2] => { results := [.lit (.bool false)], args := [d1, d2] }
  | _ => none }
def FnPlayableWrongFalsely : Prop := fnPlayableRow.holds Try.pinned (OpenSpec.ofChange fnPlayableWrong)

/- THE SECOND FORM. 'bulk': how many values and letters a reading holds, each counted each time it is reached (what is shared counts as often as it is met; a slice's spare places count too). A statement '..UptoSaid' is the law's where the arguments, and the package variables that the reading takes, are together of bulk at most 1048576: NARROWER than '..Said'. Prove '..Said' where nothing that the law and all that it calls make is longer than what came in: it says more and counts as full. Else prove '..UptoSaid'. A law counts once. -/
mutual
def uptoBulk {H : Type} : DataW H → Nat
  | .lit (.string bytes) => bytes.length + 1
  | .lit _ => 1
  | .nil => 1
  | .ptr d => uptoBulk d + 1
  | .slice elems spare => uptoBulkAll elems + uptoBulkAll spare + 1
  | .agg parts => uptoBulkAll parts + 1
  | .iface _ d => uptoBulk d + 1
  | .map entries => uptoBulkEntries entries + 1
  | .held _ => 1
def uptoBulkAll {H : Type} : List (DataW H) → Nat
  | [] => 0
  | d :: r => uptoBulk d + uptoBulkAll r
def uptoBulkEntries {H : Type} : List (Lit × DataW H) → Nat
  | [] => 0
  | x :: r => uptoBulkEntry x + uptoBulkEntries r
def uptoBulkEntry {H : Type} : Lit × DataW H → Nat
  | (.string bytes, d) => bytes.length + uptoBulk d + 1
  | (_, d) => uptoBulk d + 1
 end
def uptoSmall : (H : Type) → List (DataW H) → Bool := fun _ ds => decide (uptoBulkAll ds ≤ 1048576)
def OpenSpec.upto (s : _root_.Go.ChangeSpec) : _root_.Go.OpenSpec := { _root_.Go.OpenSpec.ofChange s with cond := some uptoSmall }

/-- 'laws.FnTempoChanges', WHERE WHAT IT READS IS OF BULK AT MOST 1048576: true; the input reads as it did. -/
def fnTempoChangesUptoRow : OpenClaim := { program := "ytgeipgflhjakjaa", sum := "0300e76b15eed51c737b18f3a722b06da80a6d96b9fa0d5e10003934d1c1af1e", func := "loop.example/g00949/laws.FnTempoChanges", spec := "fnTempoChanges", inPlace := ["slices.overlaps[loop.example/g00949/impl.Change]"], apart := false, narrowed := true }
def FnTempoChangesUptoSaid : Prop := fnTempoChangesUptoRow.holds Try.pinned (OpenSpec.upto fnTempoChangesSpec)

/-- 'laws.FnExactSoundingAt', WHERE WHAT IT READS IS OF BULK AT MOST 1048576: true; the input reads as it did. -/
def fnExactSoundingAtUptoRow : OpenClaim := { program := "ytgeipgflhjakjaa", sum := "0300e76b15eed51c737b18f3a722b06da80a6d96b9fa0d5e10003934d1c1af1e", func := "loop.example/g00949/laws.FnExactSoundingAt", spec := "fnExactSoundingAt", recurses := true, apart := false, narrowed := true }
def FnExactSoundingAtUptoSaid : Prop := fnExactSoundingAtUptoRow.holds Try.pinned (OpenSpec.upto fnExactSoundingAtSpec)

/-- 'laws.FnExactAddPitch', WHERE WHAT IT READS IS OF BULK AT MOST 1048576: true; the input reads as it did. -/
def fnExactAddPitchUptoRow : OpenClaim := { program := "ytgeipgflhjakjaa", sum := "0300e76b15eed51c737b18f3a722b06da80a6d96b9fa0d5e10003934d1c1af1e", func := "loop.example/g00949/laws.FnExactAddPitch", spec := "fnExactAddPitch", recurses := true, apart := false, narrowed := true }
def FnExactAddPitchUptoSaid : Prop := fnExactAddPitchUptoRow.holds Try.pinned (OpenSpec.upto fnExactAddPitchSpec)

/-- 'laws.FnExactMissingPitches', WHERE WHAT IT READS IS OF BULK AT MOST 1048576: true; the input reads as it did. -/
def fnExactMissingPitchesUptoRow : OpenClaim := { program := "ytgeipgflhjakjaa", sum := "0300e76b15eed51c737b18f3a722b06da80a6d96b9fa0d5e10003934d1c1af1e", func := "loop.example/g00949/laws.FnExactMissingPitches", spec := "fnExactMissingPitches", recurses := true, apart := false, narrowed := true }
def FnExactMissingPitchesUptoSaid : Prop := fnExactMissingPitchesUptoRow.holds Try.pinned (OpenSpec.upto fnExactMissingPitchesSpec)

/-- 'laws.FnPlayable', WHERE WHAT IT READS IS OF BULK AT MOST 1048576: true; the input reads as it did. -/
def fnPlayableUptoRow : OpenClaim := { program := "ytgeipgflhjakjaa", sum := "0300e76b15eed51c737b18f3a722b06da80a6d96b9fa0d5e10003934d1c1af1e", func := "loop.example/g00949/laws.FnPlayable", spec := "fnPlayable", recurses := true, apart := false, narrowed := true }
def FnPlayableUptoSaid : Prop := fnPlayableUptoRow.holds Try.pinned (OpenSpec.upto fnPlayableSpec)

end Rows
end Go.Proofs.Ytgeipgflhjakjaa
