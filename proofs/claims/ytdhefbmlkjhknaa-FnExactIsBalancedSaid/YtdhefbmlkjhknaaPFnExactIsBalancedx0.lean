/- Written by this session's own program (wip/myprint.py): the machine side of one law, some contracts of it typed by hand. -/
import Derived.Test.YtdhefbmlkjhknaaProg
import Derived.Below
import Derived.Deep.Draws
import Derived.Deep.AppendLies
import Derived.Maps.AppendAt
import Derived.OwnWalk
import Derived.Laws.BytesArg
import Derived.Laws.MakeOwn
import Derived.Laws.OwnMore
import Derived.Deep.OwnRows
import Derived.Tactics
import Derived.Lib.ConvBytes
import Derived.Laws.Slices
import Derived.WalkKit
import Derived.KernelRfl
import Derived.RowKit3
import Derived.Deep.LoopGhost
import Derived.Deep.QuietTactic
import Derived.BigQuiet
import Derived.WideLaws
import Derived.Deep.DeepCutAuto
import Derived.Deep.CutBlock
import Derived.Deep.RegionHeld3
import Derived.Laws.Rows
import Derived.Lib.AppendStr
import Derived.ArgAppend
import Derived.Laws.IdiomCopy
import Derived.OrdersHeld
import Derived.Laws.BitsLemmas
import Derived.RowKit
import Derived.Lib.SliceRun
import Derived.Test.YtdhefbmlkjhknaaWWords
import Derived.Test.YtdhefbmlkjhknaaWLast
import Derived.Test.YtdhefbmlkjhknaaWTab
import Derived.Test.YtdhefbmlkjhknaaWFour
import Derived.Test.YtdhefbmlkjhknaaWQPut
import Derived.Test.YtdhefbmlkjhknaaWApart
import Derived.Test.YtdhefbmlkjhknaaWArr
import Derived.Test.YtdhefbmlkjhknaaWZeros
import Derived.Test.YtdhefbmlkjhknaaWFoot
import Derived.Test.YtdhefbmlkjhknaaWKept
import Derived.Test.YtdhefbmlkjhknaaWShare
import Derived.Test.YtdhefbmlkjhknaaWN
import Derived.Test.YtdhefbmlkjhknaaWFootNe
import Derived.Test.YtdhefbmlkjhknaaWAt
import Derived.Test.YtdhefbmlkjhknaaWEqStruct
import Derived.Test.YtdhefbmlkjhknaaWRepsOne
import Derived.Test.YtdhefbmlkjhknaaWInv
import Derived.Test.YtdhefbmlkjhknaaWInvWords
import Derived.Test.YtdhefbmlkjhknaaWGuard
import Derived.Test.YtdhefbmlkjhknaaWNEv
import Derived.Test.YtdhefbmlkjhknaaWMore
namespace Go.Proofs.Ytdhefbmlkjhknaa.PFnExactIsBalanced
open Go.RowKit Go.Proofs.YtdhefbmlkjhknaaW.PrintWords Go.Proofs.YtdhefbmlkjhknaaW.PrintLast Go.Proofs.YtdhefbmlkjhknaaW.PrintMore
attribute [local go_sem] max2_int min2_int max_two min_two max_three min_three max_four min_four   -- for this text's walks alone
set_option linter.unusedVariables false
set_option linter.unusedSimpArgs false



def errW : Option Int → Value
  | none => .nilIface
  | some c => .iface 0 (.int .i64 c)
theorem errW_none : errW none = .nilIface := rfl
theorem errW_some (c : Int) : errW (some c) = .iface 0 (.int .i64 c) := rfl

theorem info3 : (Try.prog.info? 3).map (fun i => (i.zero, i.size, i.bytes)) = some (some (.int .i64 0), 1, 8) := by kernel_rfl
-- the values' own types

end Go.Proofs.Ytdhefbmlkjhknaa.PFnExactIsBalanced
