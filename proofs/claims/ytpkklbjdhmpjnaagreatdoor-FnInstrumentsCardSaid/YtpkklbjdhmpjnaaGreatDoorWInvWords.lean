-- out of the printer's text by wip/prunewords.py
import Derived.Test.YtpkklbjdhmpjnaaGreatDoorWInv
import Derived.Test.YtpkklbjdhmpjnaaGreatDoorWFootNe
namespace Go.Proofs.YtpkklbjdhmpjnaaGreatDoorW.PrintWords
open Go.RowKit
end Go.Proofs.YtpkklbjdhmpjnaaGreatDoorW.PrintWords
namespace Go.Proofs.YtpkklbjdhmpjnaaGreatDoorW.PrintLast
section
variable {ops : Array Oper} {a : Act} {o og : Oper} {g : Nat} {t : Tmp} {u : Bool}
end
end Go.Proofs.YtpkklbjdhmpjnaaGreatDoorW.PrintLast
