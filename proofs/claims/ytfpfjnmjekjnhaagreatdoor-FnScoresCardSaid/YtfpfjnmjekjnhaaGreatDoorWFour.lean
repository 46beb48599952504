-- out of the printer's text by wip/prunewords.py
import Derived.Test.YtfpfjnmjekjnhaaGreatDoorWTab
namespace Go.Proofs.YtfpfjnmjekjnhaaGreatDoorW.PrintLast
section
variable {P : Program} {ops : Array Oper} {Q : Exit → Act → World → Prop} {md : Region.Mode} {S : World → Prop} {ds : List Nat} {T : Bool × List (List Nat × List Nat)}
end
end Go.Proofs.YtfpfjnmjekjnhaaGreatDoorW.PrintLast
