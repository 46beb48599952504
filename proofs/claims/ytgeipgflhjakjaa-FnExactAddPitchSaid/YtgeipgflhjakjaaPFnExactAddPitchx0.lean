-- by wip/xprint.py, over the kit's printer
import Derived.Test.YtgeipgflhjakjaaProg
import Derived.Below
import Derived.Deep.Draws
import Derived.Deep.AppendLies
import Derived.Maps.AppendAt
import Derived.OwnWalk
import Derived.Laws.BytesArg
import Derived.Laws.MakeOwn
import Derived.Laws.OwnMore
import Derived.Deep.OwnRows
import Derived.Tactics
import Derived.Lib.ConvBytes
import Derived.Laws.Slices
import Derived.WalkKit
import Derived.KernelRfl
import Derived.RowKit3
import Derived.Deep.LoopGhost
import Derived.Deep.QuietTactic
import Derived.BigQuiet
import Derived.WideLaws
import Derived.Deep.DeepCutAuto
import Derived.Deep.CutBlock
import Derived.Deep.RegionHeld3
import Derived.Laws.Rows
import Derived.Lib.AppendStr
import Derived.ArgAppend
import Derived.Laws.IdiomCopy
import Derived.OrdersHeld
import Derived.Laws.BitsLemmas
import Derived.RowKit
import Derived.Test.YtgeipgflhjakjaaShelf
import Derived.Sort.OwnSortedInts
import Derived.Lib.RowBridge
import Derived.WalkSpells
import Derived.Deep.RegionLaw
import Derived.Shelf.RegionOpenPlain
import Derived.Test.YtgeipgflhjakjaaWWords
import Derived.Test.YtgeipgflhjakjaaWLast
import Derived.Test.YtgeipgflhjakjaaWTab
import Derived.Test.YtgeipgflhjakjaaWFour
import Derived.Test.YtgeipgflhjakjaaWQPut
import Derived.Test.YtgeipgflhjakjaaWApart
import Derived.Test.YtgeipgflhjakjaaWArr
import Derived.Test.YtgeipgflhjakjaaWZeros
import Derived.Test.YtgeipgflhjakjaaWFoot
import Derived.Test.YtgeipgflhjakjaaWKept
import Derived.Test.YtgeipgflhjakjaaWShare
import Derived.Test.YtgeipgflhjakjaaWN
import Derived.Test.YtgeipgflhjakjaaWFootNe
import Derived.Test.YtgeipgflhjakjaaWAt
import Derived.Test.YtgeipgflhjakjaaWEqStruct
import Derived.Test.YtgeipgflhjakjaaWRepsOne
import Derived.Test.YtgeipgflhjakjaaWInv
import Derived.Test.YtgeipgflhjakjaaWInvWords
import Derived.Test.YtgeipgflhjakjaaWGuard
import Derived.Test.YtgeipgflhjakjaaWNEv
import Derived.Test.YtgeipgflhjakjaaWMore
namespace Go.Proofs.Ytgeipgflhjakjaa.PFnExactAddPitch
open Go.RowKit Go.Proofs.YtgeipgflhjakjaaW.PrintWords Go.Proofs.YtgeipgflhjakjaaW.PrintLast Go.Proofs.YtgeipgflhjakjaaW.PrintMore
attribute [local go_sem] max2_int min2_int max_two min_two max_three min_three max_four min_four   -- for this text's walks alone
set_option linter.unusedVariables false
set_option linter.unusedSimpArgs false



def errW : Option Int → Value
  | none => .nilIface
  | some c => .iface 0 (.int .i64 c)
theorem errW_none : errW none = .nilIface := rfl
theorem errW_some (c : Int) : errW (some c) = .iface 0 (.int .i64 c) := rfl

theorem info3 : (Try.prog.info? 3).map (fun i => (i.zero, i.size, i.bytes)) = some (some (.int .i64 0), 1, 8) := by kernel_rfl
-- the values' own types

end Go.Proofs.Ytgeipgflhjakjaa.PFnExactAddPitch
