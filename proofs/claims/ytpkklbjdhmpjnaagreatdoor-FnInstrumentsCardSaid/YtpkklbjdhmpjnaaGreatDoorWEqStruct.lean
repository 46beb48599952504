-- out of the printer's text by wip/prunewords.py
import Derived.Test.YtpkklbjdhmpjnaaGreatDoorWWords
import Derived.Laws.StructEq
namespace Go.Proofs.YtpkklbjdhmpjnaaGreatDoorW.PrintWords
open Go.RowKit
section
variable {P : Program} {d : Nat} {xs ys : Array Value} {f : Field} {fs : List Field} {a b : Value} {r s : Bool} {w : World}
end
end Go.Proofs.YtpkklbjdhmpjnaaGreatDoorW.PrintWords
