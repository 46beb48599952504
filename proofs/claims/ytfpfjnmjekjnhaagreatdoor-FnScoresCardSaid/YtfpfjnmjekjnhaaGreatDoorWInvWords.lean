-- out of the printer's text by wip/prunewords.py
import Derived.Test.YtfpfjnmjekjnhaaGreatDoorWInv
import Derived.Test.YtfpfjnmjekjnhaaGreatDoorWFootNe
namespace Go.Proofs.YtfpfjnmjekjnhaaGreatDoorW.PrintWords
open Go.RowKit
end Go.Proofs.YtfpfjnmjekjnhaaGreatDoorW.PrintWords
namespace Go.Proofs.YtfpfjnmjekjnhaaGreatDoorW.PrintLast
section
variable {ops : Array Oper} {a : Act} {o og : Oper} {g : Nat} {t : Tmp} {u : Bool}
end
end Go.Proofs.YtfpfjnmjekjnhaaGreatDoorW.PrintLast
