/-
  Opening arguments of a law's row: slices of structs of whole numbers, and structs of whole numbers, read as kinds of the printed words.
-/
import Derived.Test.YtfpfjnmjekjnhaaGreatDoorWSized
import Derived.Test.YtfpfjnmjekjnhaaGreatDoorWWords
import Derived.WalkKit
import Derived.ProofKit
import Derived.OpenShut
import Derived.ShutString
import Derived.ChangeOld
import Derived.Below
import Derived.SizedLaws
import Derived.Lib.SmallJoins
import Derived.Deep.Slices
namespace Go.Proofs.YtfpfjnmjekjnhaaGreatDoor.Glue
open Go.ChangeShapes Go.WideShapes Go.Deep Go.Proofs.YtfpfjnmjekjnhaaGreatDoorW.PrintWords

theorem two_of {cs : List Value} (h : cs.length = 2) : ∃ a b, cs = [a, b] := by
  match cs, h with
  | [a, b], _ => exact ⟨a, b, rfl⟩
theorem three_of {cs : List Value} (h : cs.length = 3) : ∃ a b c, cs = [a, b, c] := by
  match cs, h with
  | [a, b, c], _ => exact ⟨a, b, c, rfl⟩

end Go.Proofs.YtfpfjnmjekjnhaaGreatDoor.Glue
