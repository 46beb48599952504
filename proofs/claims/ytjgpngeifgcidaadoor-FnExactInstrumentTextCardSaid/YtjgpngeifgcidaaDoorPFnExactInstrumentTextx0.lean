-- by wip/xprint.py, over the kit's printer
import Derived.Test.YtjgpngeifgcidaaDoorProg
import Derived.Below
import Derived.Deep.Draws
import Derived.Deep.AppendLies
import Derived.Maps.AppendAt
import Derived.OwnWalk
import Derived.Laws.BytesArg
import Derived.Laws.MakeOwn
import Derived.Laws.OwnMore
import Derived.Deep.OwnRows
import Derived.Tactics
import Derived.Lib.ConvBytes
import Derived.Laws.Slices
import Derived.WalkKit
import Derived.KernelRfl
import Derived.RowKit3
import Derived.Deep.LoopGhost
import Derived.Deep.QuietTactic
import Derived.BigQuiet
import Derived.WideLaws
import Derived.Deep.DeepCutAuto
import Derived.Deep.CutBlock
import Derived.Deep.RegionHeld3
import Derived.Laws.Rows
import Derived.Lib.AppendStr
import Derived.ArgAppend
import Derived.Laws.IdiomCopy
import Derived.OrdersHeld
import Derived.Laws.BitsLemmas
import Derived.RowKit
import Derived.Test.YtjgpngeifgcidaaDoorBld
import Derived.Test.YtjgpngeifgcidaaDoorShelf
import Derived.Sort.OwnSortedInts
import Derived.Lib.RowBridge
import Derived.WalkSpells
import Derived.Deep.RegionLaw
import Derived.Shelf.RegionOpenPlain
import Derived.Test.YtjgpngeifgcidaaDoorWWords
import Derived.Test.YtjgpngeifgcidaaDoorWLast
import Derived.Test.YtjgpngeifgcidaaDoorWTab
import Derived.Test.YtjgpngeifgcidaaDoorWFour
import Derived.Test.YtjgpngeifgcidaaDoorWQPut
import Derived.Test.YtjgpngeifgcidaaDoorWApart
import Derived.Test.YtjgpngeifgcidaaDoorWArr
import Derived.Test.YtjgpngeifgcidaaDoorWZeros
import Derived.Test.YtjgpngeifgcidaaDoorWFoot
import Derived.Test.YtjgpngeifgcidaaDoorWKept
import Derived.Test.YtjgpngeifgcidaaDoorWShare
import Derived.Test.YtjgpngeifgcidaaDoorWN
import Derived.Test.YtjgpngeifgcidaaDoorWFootNe
import Derived.Test.YtjgpngeifgcidaaDoorWAt
import Derived.Test.YtjgpngeifgcidaaDoorWEqStruct
import Derived.Test.YtjgpngeifgcidaaDoorWRepsOne
import Derived.Test.YtjgpngeifgcidaaDoorWInv
import Derived.Test.YtjgpngeifgcidaaDoorWInvWords
import Derived.Test.YtjgpngeifgcidaaDoorWGuard
import Derived.Test.YtjgpngeifgcidaaDoorWNEv
import Derived.Test.YtjgpngeifgcidaaDoorWMore
namespace Go.Proofs.YtjgpngeifgcidaaDoor.PFnExactInstrumentText
open Go.RowKit Go.Proofs.YtjgpngeifgcidaaDoorW.PrintWords Go.Proofs.YtjgpngeifgcidaaDoorW.PrintLast Go.Proofs.YtjgpngeifgcidaaDoorW.PrintMore
attribute [local go_sem] max2_int min2_int max_two min_two max_three min_three max_four min_four   -- for this text's walks alone
set_option linter.unusedVariables false
set_option linter.unusedSimpArgs false



def errW : Option Int → Value
  | none => .nilIface
  | some c => .iface 0 (.int .i64 c)
theorem errW_none : errW none = .nilIface := rfl
theorem errW_some (c : Int) : errW (some c) = .iface 0 (.int .i64 c) := rfl

theorem info3 : (Tryd.prog.info? 3).map (fun i => (i.zero, i.size, i.bytes)) = some (some (.int .i64 0), 1, 8) := by kernel_rfl
theorem info5 : (Tryd.prog.info? 5).map (fun i => (i.zero, i.size, i.bytes)) = some (some (.int .u8 0), 1, 1) := by kernel_rfl
theorem info9 : (Tryd.prog.info? 9).map (fun i => (i.zero, i.size, i.bytes)) = some (some (.string ⟨#[]⟩), 1, 16) := by kernel_rfl
-- the values' own types

end Go.Proofs.YtjgpngeifgcidaaDoor.PFnExactInstrumentText
