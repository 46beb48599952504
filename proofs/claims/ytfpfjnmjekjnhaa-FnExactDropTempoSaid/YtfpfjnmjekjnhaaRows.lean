/-
  No cell of these rows narrows 'for every input' (looked for: loops, veiled, ifaces, maps, wideKeys, modest, calm, conditions, laid).
  DERIVED. THE GIVEN ROWS OF THIS SEAT. 10 by the template 'for every input the law returns true; each argument reads behind the call as it read before'; 0 by the template 'total and deterministic' (their statements: YtfpfjnmjekjnhaaTotals.lean).
  GIVEN WITH THE SEED: the statements are not yours to turn. If you find one false, say at which input.
  Laid BY PROGRAM, IN A SANDBOX (cutbox-rows.mjs): the forced cells as the released guide's own fill.sh prints them over the translation f037fae19c883b7f… (all of the seat's roots in one cut). By AI agents, Wed Nov 11 2026. No macro, syntax, notation, axiom, sorry.
-/
import Derived.Test.YtfpfjnmjekjnhaaChecked
import GoSem.Claim
import GoSem.ClaimJoined
import GoSem.ClaimMapViews
import Derived.JoinedTies
import Derived.KernelRfl
namespace Go.Proofs.Ytfpfjnmjekjnhaa
/- THE CELL 'sum', in the pinned program and in every row, IS THE sha256 OF THE DUMP (.gsa) THAT YtfpfjnmjekjnhaaProg.lean LOADS. Nothing in Lean hashes anything: it is a label: what it is worth is what the hold of that sum in a sandbox is worth. -/
noncomputable def Try.pinned : Pinned := { name := "ytfpfjnmjekjnhaa", sum := "f037fae19c883b7ffe8cad46a7044b0686cb640a9c64f3404ed3bef57642a782", checked := Try.checked }
namespace Rows
def none {H : Type} : Left H := { results := [], args := [] }

/-- 'laws.FnExactSimpleTempos': WHATEVER THE INPUT: true; the input reads as it did. -/
def fnExactSimpleTemposSpec : ChangeSpec := { name := "fnExactSimpleTempos", fn := fun _ => fun
  | [d] => { results := [.lit (.bool true)], args := [d] }
  | _ => none }
def fnExactSimpleTemposRow : OpenClaim := { program := "ytfpfjnmjekjnhaa", sum := "f037fae19c883b7ffe8cad46a7044b0686cb640a9c64f3404ed3bef57642a782", func := "loop.example/g00949/laws.FnExactSimpleTempos", spec := "fnExactSimpleTempos", apart := false }
def FnExactSimpleTemposSaid : Prop := fnExactSimpleTemposRow.holds Try.pinned (OpenSpec.ofChange fnExactSimpleTemposSpec)

/-- ITS FALSE NEIGHBOUR: 'it returns false'. Refute it at one input. -/
def fnExactSimpleTemposWrong : ChangeSpec := { name := "fnExactSimpleTempos", fn := fun _ => fun
  | [d] => { results := [.lit (.bool false)], args := [d] }
  | _ => none }
def FnExactSimpleTemposWrongFalsely : Prop := fnExactSimpleTemposRow.holds Try.pinned (OpenSpec.ofChange fnExactSimpleTemposWrong)

/-- 'laws.FnExactTimeOf': WHATEVER THE INPUT: true; the input reads as it did. -/
def fnExactTimeOfSpec : ChangeSpec := { name := "fnExactTimeOf", fn := fun _ => fun
  | [d1, d2] => { results := [.lit (.bool true)], args := [d1, d2] }
  | _ => none }
def fnExactTimeOfRow : OpenClaim := { program := "ytfpfjnmjekjnhaa", sum := "f037fae19c883b7ffe8cad46a7044b0686cb640a9c64f3404ed3bef57642a782", func := "loop.example/g00949/laws.FnExactTimeOf", spec := "fnExactTimeOf", apart := false }
def FnExactTimeOfSaid : Prop := fnExactTimeOfRow.holds Try.pinned (OpenSpec.ofChange fnExactTimeOfSpec)

/-- ITS FALSE NEIGHBOUR: 'it returns false'. Refute it at one input. -/
def fnExactTimeOfWrong : ChangeSpec := { name := "fnExactTimeOf", fn := fun _ => fun
  | [d1, d2] => { results := [.lit (.bool false)], args := [d1, d2] }
  | _ => none }
def FnExactTimeOfWrongFalsely : Prop := fnExactTimeOfRow.holds Try.pinned (OpenSpec.ofChange fnExactTimeOfWrong)

/-- 'laws.FnExactTimeBetween': WHATEVER THE INPUT: true; the input reads as it did. -/
def fnExactTimeBetweenSpec : ChangeSpec := { name := "fnExactTimeBetween", fn := fun _ => fun
  | [d1, d2, d3] => { results := [.lit (.bool true)], args := [d1, d2, d3] }
  | _ => none }
def fnExactTimeBetweenRow : OpenClaim := { program := "ytfpfjnmjekjnhaa", sum := "f037fae19c883b7ffe8cad46a7044b0686cb640a9c64f3404ed3bef57642a782", func := "loop.example/g00949/laws.FnExactTimeBetween", spec := "fnExactTimeBetween", apart := false }
def FnExactTimeBetweenSaid : Prop := fnExactTimeBetweenRow.holds Try.pinned (OpenSpec.ofChange fnExactTimeBetweenSpec)

/-- ITS FALSE NEIGHBOUR: 'it returns false'. Refute it at one input. -/
def fnExactTimeBetweenWrong : ChangeSpec := { name := "fnExactTimeBetween", fn := fun _ => fun
  | [d1, d2, d3] => { results := [.lit (.bool false)], args := [d1, d2, d3] }
  | _ => none }
def FnExactTimeBetweenWrongFalsely : Prop := fnExactTimeBetweenRow.holds Try.pinned (OpenSpec.ofChange fnExactTimeBetweenWrong)

/-- 'laws.FnExactPaperSpeed': WHATEVER THE INPUT: true; the input reads as it did. -/
def fnExactPaperSpeedSpec : ChangeSpec := { name := "fnExactPaperSpeed", fn := fun _ => fun
  | [d1, d2, d3] => { results := [.lit (.bool true)], args := [d1, d2, d3] }
  | _ => none }
def fnExactPaperSpeedRow : OpenClaim := { program := "ytfpfjnmjekjnhaa", sum := "f037fae19c883b7ffe8cad46a7044b0686cb640a9c64f3404ed3bef57642a782", func := "loop.example/g00949/laws.FnExactPaperSpeed", spec := "fnExactPaperSpeed", apart := false }
def FnExactPaperSpeedSaid : Prop := fnExactPaperSpeedRow.holds Try.pinned (OpenSpec.ofChange fnExactPaperSpeedSpec)

/-- ITS FALSE NEIGHBOUR: 'it returns false'. Refute it at one input. -/
def fnExactPaperSpeedWrong : ChangeSpec := { name := "fnExactPaperSpeed", fn := fun _ => fun
  | [d1, d2, d3] => { results := [.lit (.bool false)], args := [d1, d2, d3] }
  | _ => none }
def FnExactPaperSpeedWrongFalsely : Prop := fnExactPaperSpeedRow.holds Try.pinned (OpenSpec.ofChange fnExactPaperSpeedWrong)

/-- 'laws.FnExactDropTempo': WHATEVER THE INPUT: true; the input reads as it did. -/
def fnExactDropTempoSpec : ChangeSpec := { name := "fnExactDropTempo", fn := fun _ => fun
  | [d1, d2] => { results := [.lit (.bool true)], args := [d1, d2] }
  | _ => none }
def fnExactDropTempoRow : OpenClaim := { program := "ytfpfjnmjekjnhaa", sum := "f037fae19c883b7ffe8cad46a7044b0686cb640a9c64f3404ed3bef57642a782", func := "loop.example/g00949/laws.FnExactDropTempo", spec := "fnExactDropTempo", apart := false }
def FnExactDropTempoSaid : Prop := fnExactDropTempoRow.holds Try.pinned (OpenSpec.ofChange fnExactDropTempoSpec)

/-- ITS FALSE NEIGHBOUR: 'it returns false'. Refute it at one input. -/
def fnExactDropTempoWrong : ChangeSpec := { name := "fnExactDropTempo", fn := fun _ => fun
  | [d1, d2] => { results := [.lit (.bool false)], args := [d1, d2] }
  | _ => none }
def FnExactDropTempoWrongFalsely : Prop := fnExactDropTempoRow.holds Try.pinned (OpenSpec.ofChange fnExactDropTempoWrong)

/-- 'laws.FnExactLengthOfSheet': WHATEVER THE INPUT: true; the input reads as it did. -/
def fnExactLengthOfSheetSpec : ChangeSpec := { name := "fnExactLengthOfSheet", fn := fun _ => fun
  | [d] => { results := [.lit (.bool true)], args := [d] }
  | _ => none }
def fnExactLengthOfSheetRow : OpenClaim := { program := "ytfpfjnmjekjnhaa", sum := "f037fae19c883b7ffe8cad46a7044b0686cb640a9c64f3404ed3bef57642a782", func := "loop.example/g00949/laws.FnExactLengthOfSheet", spec := "fnExactLengthOfSheet", apart := false }
def FnExactLengthOfSheetSaid : Prop := fnExactLengthOfSheetRow.holds Try.pinned (OpenSpec.ofChange fnExactLengthOfSheetSpec)

/-- ITS FALSE NEIGHBOUR: 'it returns false'. Refute it at one input. -/
def fnExactLengthOfSheetWrong : ChangeSpec := { name := "fnExactLengthOfSheet", fn := fun _ => fun
  | [d] => { results := [.lit (.bool false)], args := [d] }
  | _ => none }
def FnExactLengthOfSheetWrongFalsely : Prop := fnExactLengthOfSheetRow.holds Try.pinned (OpenSpec.ofChange fnExactLengthOfSheetWrong)

/-- 'laws.FnExactEvenTempo': WHATEVER THE INPUT: true; the input reads as it did. -/
def fnExactEvenTempoSpec : ChangeSpec := { name := "fnExactEvenTempo", fn := fun _ => fun
  | [d1, d2, d3] => { results := [.lit (.bool true)], args := [d1, d2, d3] }
  | _ => none }
def fnExactEvenTempoRow : OpenClaim := { program := "ytfpfjnmjekjnhaa", sum := "f037fae19c883b7ffe8cad46a7044b0686cb640a9c64f3404ed3bef57642a782", func := "loop.example/g00949/laws.FnExactEvenTempo", spec := "fnExactEvenTempo", apart := false }
def FnExactEvenTempoSaid : Prop := fnExactEvenTempoRow.holds Try.pinned (OpenSpec.ofChange fnExactEvenTempoSpec)

/-- ITS FALSE NEIGHBOUR: 'it returns false'. Refute it at one input. -/
def fnExactEvenTempoWrong : ChangeSpec := { name := "fnExactEvenTempo", fn := fun _ => fun
  | [d1, d2, d3] => { results := [.lit (.bool false)], args := [d1, d2, d3] }
  | _ => none }
def FnExactEvenTempoWrongFalsely : Prop := fnExactEvenTempoRow.holds Try.pinned (OpenSpec.ofChange fnExactEvenTempoWrong)

/-- 'laws.FnExactStepAtTime': WHATEVER THE INPUT: true; the input reads as it did. -/
def fnExactStepAtTimeSpec : ChangeSpec := { name := "fnExactStepAtTime", fn := fun _ => fun
  | [d1, d2] => { results := [.lit (.bool true)], args := [d1, d2] }
  | _ => none }
def fnExactStepAtTimeRow : OpenClaim := { program := "ytfpfjnmjekjnhaa", sum := "f037fae19c883b7ffe8cad46a7044b0686cb640a9c64f3404ed3bef57642a782", func := "loop.example/g00949/laws.FnExactStepAtTime", spec := "fnExactStepAtTime", apart := false }
def FnExactStepAtTimeSaid : Prop := fnExactStepAtTimeRow.holds Try.pinned (OpenSpec.ofChange fnExactStepAtTimeSpec)

/-- ITS FALSE NEIGHBOUR: 'it returns false'. Refute it at one input. -/
def fnExactStepAtTimeWrong : ChangeSpec := { name := "fnExactStepAtTime", fn := fun _ => fun
  | [d1, d2] => { results := [.lit (.bool false)], args := [d1, d2] }
  | _ => none }
def FnExactStepAtTimeWrongFalsely : Prop := fnExactStepAtTimeRow.holds Try.pinned (OpenSpec.ofChange fnExactStepAtTimeWrong)

/-- 'laws.FnExactEndOfScore': WHATEVER THE INPUT: true; the input reads as it did. -/
def fnExactEndOfScoreSpec : ChangeSpec := { name := "fnExactEndOfScore", fn := fun _ => fun
  | [d] => { results := [.lit (.bool true)], args := [d] }
  | _ => none }
def fnExactEndOfScoreRow : OpenClaim := { program := "ytfpfjnmjekjnhaa", sum := "f037fae19c883b7ffe8cad46a7044b0686cb640a9c64f3404ed3bef57642a782", func := "loop.example/g00949/laws.FnExactEndOfScore", spec := "fnExactEndOfScore", apart := false }
def FnExactEndOfScoreSaid : Prop := fnExactEndOfScoreRow.holds Try.pinned (OpenSpec.ofChange fnExactEndOfScoreSpec)

/-- ITS FALSE NEIGHBOUR: 'it returns false'. Refute it at one input. -/
def fnExactEndOfScoreWrong : ChangeSpec := { name := "fnExactEndOfScore", fn := fun _ => fun
  | [d] => { results := [.lit (.bool false)], args := [d] }
  | _ => none }
def FnExactEndOfScoreWrongFalsely : Prop := fnExactEndOfScoreRow.holds Try.pinned (OpenSpec.ofChange fnExactEndOfScoreWrong)

/-- 'laws.FnExactLeastWeb': WHATEVER THE INPUT: true; the input reads as it did. -/
def fnExactLeastWebSpec : ChangeSpec := { name := "fnExactLeastWeb", fn := fun _ => fun
  | [d] => { results := [.lit (.bool true)], args := [d] }
  | _ => none }
def fnExactLeastWebRow : OpenClaim := { program := "ytfpfjnmjekjnhaa", sum := "f037fae19c883b7ffe8cad46a7044b0686cb640a9c64f3404ed3bef57642a782", func := "loop.example/g00949/laws.FnExactLeastWeb", spec := "fnExactLeastWeb", apart := false }
def FnExactLeastWebSaid : Prop := fnExactLeastWebRow.holds Try.pinned (OpenSpec.ofChange fnExactLeastWebSpec)

/-- ITS FALSE NEIGHBOUR: 'it returns false'. Refute it at one input. -/
def fnExactLeastWebWrong : ChangeSpec := { name := "fnExactLeastWeb", fn := fun _ => fun
  | [d] => { results := [.lit (.bool false)], args := [d] }
  | _ => none }
def FnExactLeastWebWrongFalsely : Prop := fnExactLeastWebRow.holds Try.pinned (OpenSpec.ofChange fnExactLeastWebWrong)

/- THE SECOND FORM. 'bulk': how many values and letters a reading holds, each counted each time it is reached (what is shared counts as often as it is met; a slice's spare places count too). A statement '..UptoSaid' is the law's where the arguments, and the package variables that the reading takes, are together of bulk at most 1048576: NARROWER than '..Said'. Prove '..Said' where nothing that the law and all that it calls make is longer than what came in: it says more and counts as full. Else prove '..UptoSaid'. A law counts once. -/
mutual
def uptoBulk {H : Type} : DataW H → Nat
  | .lit (.string bytes) => bytes.length + 1
  | .lit _ => 1
  | .nil => 1
  | .ptr d => uptoBulk d + 1
  | .slice elems spare => uptoBulkAll elems + uptoBulkAll spare + 1
  | .agg parts => uptoBulkAll parts + 1
  | .iface _ d => uptoBulk d + 1
  | .map entries => uptoBulkEntries entries + 1
  | .held _ => 1
def uptoBulkAll {H : Type} : List (DataW H) → Nat
  | [] => 0
  | d :: r => uptoBulk d + uptoBulkAll r
def uptoBulkEntries {H : Type} : List (Lit × DataW H) → Nat
  | [] => 0
  | x :: r => uptoBulkEntry x + uptoBulkEntries r
def uptoBulkEntry {H : Type} : Lit × DataW H → Nat
  | (.string bytes, d) => bytes.length + uptoBulk d + 1
  | (_, d) => uptoBulk d + 1
 end
def uptoSmall : (H : Type) → List (DataW H) → Bool := fun _ ds => decide (uptoBulkAll ds ≤ 1048576)
def OpenSpec.upto (s : _root_.Go.ChangeSpec) : _root_.Go.OpenSpec := { _root_.Go.OpenSpec.ofChange s with cond := some uptoSmall }

/-- 'laws.FnExactSimpleTempos', WHERE WHAT IT READS IS OF BULK AT MOST 1048576: true; the input reads as it did. -/
def fnExactSimpleTemposUptoRow : OpenClaim := { program := "ytfpfjnmjekjnhaa", sum := "f037fae19c883b7ffe8cad46a7044b0686cb640a9c64f3404ed3bef57642a782", func := "loop.example/g00949/laws.FnExactSimpleTempos", spec := "fnExactSimpleTempos", apart := false, narrowed := true }
def FnExactSimpleTemposUptoSaid : Prop := fnExactSimpleTemposUptoRow.holds Try.pinned (OpenSpec.upto fnExactSimpleTemposSpec)

/-- 'laws.FnExactTimeOf', WHERE WHAT IT READS IS OF BULK AT MOST 1048576: true; the input reads as it did. -/
def fnExactTimeOfUptoRow : OpenClaim := { program := "ytfpfjnmjekjnhaa", sum := "f037fae19c883b7ffe8cad46a7044b0686cb640a9c64f3404ed3bef57642a782", func := "loop.example/g00949/laws.FnExactTimeOf", spec := "fnExactTimeOf", apart := false, narrowed := true }
def FnExactTimeOfUptoSaid : Prop := fnExactTimeOfUptoRow.holds Try.pinned (OpenSpec.upto fnExactTimeOfSpec)

/-- 'laws.FnExactTimeBetween', WHERE WHAT IT READS IS OF BULK AT MOST 1048576: true; the input reads as it did. -/
def fnExactTimeBetweenUptoRow : OpenClaim := { program := "ytfpfjnmjekjnhaa", sum := "f037fae19c883b7ffe8cad46a7044b0686cb640a9c64f3404ed3bef57642a782", func := "loop.example/g00949/laws.FnExactTimeBetween", spec := "fnExactTimeBetween", apart := false, narrowed := true }
def FnExactTimeBetweenUptoSaid : Prop := fnExactTimeBetweenUptoRow.holds Try.pinned (OpenSpec.upto fnExactTimeBetweenSpec)

/-- 'laws.FnExactPaperSpeed', WHERE WHAT IT READS IS OF BULK AT MOST 1048576: true; the input reads as it did. -/
def fnExactPaperSpeedUptoRow : OpenClaim := { program := "ytfpfjnmjekjnhaa", sum := "f037fae19c883b7ffe8cad46a7044b0686cb640a9c64f3404ed3bef57642a782", func := "loop.example/g00949/laws.FnExactPaperSpeed", spec := "fnExactPaperSpeed", apart := false, narrowed := true }
def FnExactPaperSpeedUptoSaid : Prop := fnExactPaperSpeedUptoRow.holds Try.pinned (OpenSpec.upto fnExactPaperSpeedSpec)

/-- 'laws.FnExactDropTempo', WHERE WHAT IT READS IS OF BULK AT MOST 1048576: true; the input reads as it did. -/
def fnExactDropTempoUptoRow : OpenClaim := { program := "ytfpfjnmjekjnhaa", sum := "f037fae19c883b7ffe8cad46a7044b0686cb640a9c64f3404ed3bef57642a782", func := "loop.example/g00949/laws.FnExactDropTempo", spec := "fnExactDropTempo", apart := false, narrowed := true }
def FnExactDropTempoUptoSaid : Prop := fnExactDropTempoUptoRow.holds Try.pinned (OpenSpec.upto fnExactDropTempoSpec)

/-- 'laws.FnExactLengthOfSheet', WHERE WHAT IT READS IS OF BULK AT MOST 1048576: true; the input reads as it did. -/
def fnExactLengthOfSheetUptoRow : OpenClaim := { program := "ytfpfjnmjekjnhaa", sum := "f037fae19c883b7ffe8cad46a7044b0686cb640a9c64f3404ed3bef57642a782", func := "loop.example/g00949/laws.FnExactLengthOfSheet", spec := "fnExactLengthOfSheet", apart := false, narrowed := true }
def FnExactLengthOfSheetUptoSaid : Prop := fnExactLengthOfSheetUptoRow.holds Try.pinned (OpenSpec.upto fnExactLengthOfSheetSpec)

/-- 'laws.FnExactEvenTempo', WHERE WHAT IT READS IS OF BULK AT MOST 1048576: true; the input reads as it did. -/
def fnExactEvenTempoUptoRow : OpenClaim := { program := "ytfpfjnmjekjnhaa", sum := "f037fae19c883b7ffe8cad46a7044b0686cb640a9c64f3404ed3bef57642a782", func := "loop.example/g00949/laws.FnExactEvenTempo", spec := "fnExactEvenTempo", apart := false, narrowed := true }
def FnExactEvenTempoUptoSaid : Prop := fnExactEvenTempoUptoRow.holds Try.pinned (OpenSpec.upto fnExactEvenTempoSpec)

/-- 'laws.FnExactStepAtTime', WHERE WHAT IT READS IS OF BULK AT MOST 1048576: true; the input reads as it did. -/
def fnExactStepAtTimeUptoRow : OpenClaim := { program := "ytfpfjnmjekjnhaa", sum := "f037fae19c883b7ffe8cad46a7044b0686cb640a9c64f3404ed3bef57642a782", func := "loop.example/g00949/laws.FnExactStepAtTime", spec := "fnExactStepAtTime", apart := false, narrowed := true }
def FnExactStepAtTimeUptoSaid : Prop := fnExactStepAtTimeUptoRow.holds Try.pinned (OpenSpec.upto fnExactStepAtTimeSpec)

/-- 'laws.FnExactEndOfScore', WHERE WHAT IT READS IS OF BULK AT MOST 1048576: true; the input reads as it did. -/
def fnExactEndOfScoreUptoRow : OpenClaim := { program := "ytfpfjnmjekjnhaa", sum := "f037fae19c883b7ffe8cad46a7044b0686cb640a9c64f3404ed3bef57642a782", func := "loop.example/g00949/laws.FnExactEndOfScore", spec := "fnExactEndOfScore", apart := false, narrowed := true }
def FnExactEndOfScoreUptoSaid : Prop := fnExactEndOfScoreUptoRow.holds Try.pinned (OpenSpec.upto fnExactEndOfScoreSpec)

/-- 'laws.FnExactLeastWeb', WHERE WHAT IT READS IS OF BULK AT MOST 1048576: true; the input reads as it did. -/
def fnExactLeastWebUptoRow : OpenClaim := { program := "ytfpfjnmjekjnhaa", sum := "f037fae19c883b7ffe8cad46a7044b0686cb640a9c64f3404ed3bef57642a782", func := "loop.example/g00949/laws.FnExactLeastWeb", spec := "fnExactLeastWeb", apart := false, narrowed := true }
def FnExactLeastWebUptoSaid : Prop := fnExactLeastWebUptoRow.holds Try.pinned (OpenSpec.upto fnExactLeastWebSpec)

end Rows
end Go.Proofs.Ytfpfjnmjekjnhaa
