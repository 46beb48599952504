/-
  Opening arguments of a law's row: slices of structs of whole numbers, and structs of whole numbers, read as kinds of the printed words.
-/
import Derived.Test.YtpkklbjdhmpjnaaGreatDoorWSized
import Derived.Test.YtpkklbjdhmpjnaaGreatDoorWWords
import Derived.WalkKit
import Derived.ProofKit
import Derived.OpenShut
import Derived.ShutString
import Derived.ChangeOld
import Derived.Below
import Derived.SizedLaws
import Derived.Lib.SmallJoins
import Derived.Deep.Slices
namespace Go.Proofs.YtpkklbjdhmpjnaaGreatDoor.Glue
open Go.ChangeShapes Go.WideShapes Go.Deep Go.Proofs.YtpkklbjdhmpjnaaGreatDoorW.PrintWords

theorem two_of {cs : List Value} (h : cs.length = 2) : ∃ a b, cs = [a, b] := by
  match cs, h with
  | [a, b], _ => exact ⟨a, b, rfl⟩
end Go.Proofs.YtpkklbjdhmpjnaaGreatDoor.Glue
