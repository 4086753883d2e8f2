/- Written by this session's own program (wip/myprint.py): the machine side of one law, some contracts of it typed by hand. -/
import Derived.Test.YtpbooapanfajiaaProg
import Derived.Below
import Derived.Deep.Draws
import Derived.Deep.AppendLies
import Derived.Maps.AppendAt
import Derived.OwnWalk
import Derived.Laws.BytesArg
import Derived.Laws.MakeOwn
import Derived.Laws.OwnMore
import Derived.Deep.OwnRows
import Derived.Tactics
import Derived.Lib.ConvBytes
import Derived.Laws.Slices
import Derived.WalkKit
import Derived.KernelRfl
import Derived.RowKit3
import Derived.Deep.LoopGhost
import Derived.Deep.QuietTactic
import Derived.BigQuiet
import Derived.WideLaws
import Derived.Deep.DeepCutAuto
import Derived.Deep.CutBlock
import Derived.Deep.RegionHeld3
import Derived.Laws.Rows
import Derived.Lib.AppendStr
import Derived.ArgAppend
import Derived.Laws.IdiomCopy
import Derived.OrdersHeld
import Derived.Laws.BitsLemmas
import Derived.RowKit
import Derived.Lib.SliceRun
import Derived.Laws.Rows
import Derived.Laws.CopyOwn
import Derived.Test.YtpbooapanfajiaaWWords
import Derived.Test.YtpbooapanfajiaaWLast
import Derived.Test.YtpbooapanfajiaaWTab
import Derived.Test.YtpbooapanfajiaaWFour
import Derived.Test.YtpbooapanfajiaaWQPut
import Derived.Test.YtpbooapanfajiaaWApart
import Derived.Test.YtpbooapanfajiaaWArr
import Derived.Test.YtpbooapanfajiaaWZeros
import Derived.Test.YtpbooapanfajiaaWFoot
import Derived.Test.YtpbooapanfajiaaWKept
import Derived.Test.YtpbooapanfajiaaWShare
import Derived.Test.YtpbooapanfajiaaWN
import Derived.Test.YtpbooapanfajiaaWFootNe
import Derived.Test.YtpbooapanfajiaaWAt
import Derived.Test.YtpbooapanfajiaaWEqStruct
import Derived.Test.YtpbooapanfajiaaWRepsOne
import Derived.Test.YtpbooapanfajiaaWInv
import Derived.Test.YtpbooapanfajiaaWInvWords
import Derived.Test.YtpbooapanfajiaaWGuard
import Derived.Test.YtpbooapanfajiaaWNEv
import Derived.Test.YtpbooapanfajiaaWMore
namespace Go.Proofs.Ytpbooapanfajiaa.PFnExactChristoffelSplit
open Go.RowKit Go.Proofs.YtpbooapanfajiaaW.PrintWords Go.Proofs.YtpbooapanfajiaaW.PrintLast Go.Proofs.YtpbooapanfajiaaW.PrintMore
attribute [local go_sem] max2_int min2_int max_two min_two max_three min_three max_four min_four   -- for this text's walks alone
set_option linter.unusedVariables false
set_option linter.unusedSimpArgs false



def errW : Option Int → Value
  | none => .nilIface
  | some c => .iface 0 (.int .i64 c)
theorem errW_none : errW none = .nilIface := rfl
theorem errW_some (c : Int) : errW (some c) = .iface 0 (.int .i64 c) := rfl

theorem info3 : (Try.prog.info? 3).map (fun i => (i.zero, i.size, i.bytes)) = some (some (.int .i64 0), 1, 8) := by kernel_rfl
-- the values' own types

end Go.Proofs.Ytpbooapanfajiaa.PFnExactChristoffelSplit
