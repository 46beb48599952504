-- out of the printer's text by wip/prunewords.py
import Derived.Test.YtjgpngeifgcidaaWWords
namespace Go.Proofs.YtjgpngeifgcidaaW.PrintWords
open Go.RowKit
section
variable {P : Program} {ops : Array Oper} {rest : List Oper} {o : Oper} {a : Act} {Q : Exit → Act → World → Prop} {W : World}
end
end Go.Proofs.YtjgpngeifgcidaaW.PrintWords
