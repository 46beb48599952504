-- out of the printer's text by wip/prunewords.py
import Derived.Test.YtgeipgflhjakjaaWInv
import Derived.Test.YtgeipgflhjakjaaWFootNe
namespace Go.Proofs.YtgeipgflhjakjaaW.PrintWords
open Go.RowKit
end Go.Proofs.YtgeipgflhjakjaaW.PrintWords
namespace Go.Proofs.YtgeipgflhjakjaaW.PrintLast
section
variable {ops : Array Oper} {a : Act} {o og : Oper} {g : Nat} {t : Tmp} {u : Bool}
end
end Go.Proofs.YtgeipgflhjakjaaW.PrintLast
