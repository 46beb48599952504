-- out of the printer's text by wip/prunewords.py
import Derived.Test.YtfpfjnmjekjnhaaGreatDoorWN
namespace Go.Proofs.YtfpfjnmjekjnhaaGreatDoorW.PrintWords
open Go.RowKit
namespace Kd
section
variable {α : Type} {d : Kd α} {W : World} {g n : Nat} {S ok : Nat → Prop} {A : Option Addr} {ad : Addr} {xs : List α}
end
end Kd
end Go.Proofs.YtfpfjnmjekjnhaaGreatDoorW.PrintWords
