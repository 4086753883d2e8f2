/- Written by this session's own program (wip/myprint.py): the machine side of one law, some contracts of it typed by hand. -/
import Derived.Test.YtjdnbakmeieknaaProg
import Derived.Below
import Derived.Deep.Draws
import Derived.Deep.AppendLies
import Derived.Maps.AppendAt
import Derived.OwnWalk
import Derived.Laws.BytesArg
import Derived.Laws.MakeOwn
import Derived.Laws.OwnMore
import Derived.Deep.OwnRows
import Derived.Tactics
import Derived.Lib.ConvBytes
import Derived.Laws.Slices
import Derived.WalkKit
import Derived.KernelRfl
import Derived.RowKit3
import Derived.Deep.LoopGhost
import Derived.Deep.QuietTactic
import Derived.BigQuiet
import Derived.WideLaws
import Derived.Deep.DeepCutAuto
import Derived.Deep.CutBlock
import Derived.Deep.RegionHeld3
import Derived.Laws.Rows
import Derived.Lib.AppendStr
import Derived.ArgAppend
import Derived.Laws.IdiomCopy
import Derived.OrdersHeld
import Derived.Laws.BitsLemmas
import Derived.RowKit
import Derived.Lib.SliceRun
import Derived.Laws.Rows
import Derived.Laws.CopyOwn
import Derived.Test.YtjdnbakmeieknaaShelf
import Derived.Sort.OwnSortedInts
import Derived.Lib.RowBridge
import Derived.Test.YtjdnbakmeieknaaWWords
import Derived.Test.YtjdnbakmeieknaaWLast
import Derived.Test.YtjdnbakmeieknaaWTab
import Derived.Test.YtjdnbakmeieknaaWFour
import Derived.Test.YtjdnbakmeieknaaWQPut
import Derived.Test.YtjdnbakmeieknaaWApart
import Derived.Test.YtjdnbakmeieknaaWArr
import Derived.Test.YtjdnbakmeieknaaWZeros
import Derived.Test.YtjdnbakmeieknaaWFoot
import Derived.Test.YtjdnbakmeieknaaWKept
import Derived.Test.YtjdnbakmeieknaaWShare
import Derived.Test.YtjdnbakmeieknaaWN
import Derived.Test.YtjdnbakmeieknaaWFootNe
import Derived.Test.YtjdnbakmeieknaaWAt
import Derived.Test.YtjdnbakmeieknaaWEqStruct
import Derived.Test.YtjdnbakmeieknaaWRepsOne
import Derived.Test.YtjdnbakmeieknaaWInv
import Derived.Test.YtjdnbakmeieknaaWInvWords
import Derived.Test.YtjdnbakmeieknaaWGuard
import Derived.Test.YtjdnbakmeieknaaWNEv
import Derived.Test.YtjdnbakmeieknaaWMore
namespace Go.Proofs.Ytjdnbakmeieknaa.PFnGaps
open Go.RowKit Go.Proofs.YtjdnbakmeieknaaW.PrintWords Go.Proofs.YtjdnbakmeieknaaW.PrintLast Go.Proofs.YtjdnbakmeieknaaW.PrintMore
attribute [local go_sem] max2_int min2_int max_two min_two max_three min_three max_four min_four   -- for this text's walks alone
set_option linter.unusedVariables false
set_option linter.unusedSimpArgs false



def errW : Option Int → Value
 | none => .nilIface
 | some c => .iface 0 (.int .i64 c)
theorem errW_none : errW none = .nilIface := rfl
theorem errW_some (c : Int) : errW (some c) = .iface 0 (.int .i64 c) := rfl

theorem info3 : (Try.prog.info? 3).map (fun i => (i.zero, i.size, i.bytes)) = some (some (.int .i64 0), 1, 8) := by kernel_rfl
-- the values' own types

end Go.Proofs.Ytjdnbakmeieknaa.PFnGaps
