-- out of the printer's text by wip/prunewords.py
import Derived.Test.YtjgpngeifgcidaaWInv
import Derived.Test.YtjgpngeifgcidaaWFootNe
namespace Go.Proofs.YtjgpngeifgcidaaW.PrintWords
open Go.RowKit
end Go.Proofs.YtjgpngeifgcidaaW.PrintWords
namespace Go.Proofs.YtjgpngeifgcidaaW.PrintLast
section
variable {ops : Array Oper} {a : Act} {o og : Oper} {g : Nat} {t : Tmp} {u : Bool}
end
end Go.Proofs.YtjgpngeifgcidaaW.PrintLast
