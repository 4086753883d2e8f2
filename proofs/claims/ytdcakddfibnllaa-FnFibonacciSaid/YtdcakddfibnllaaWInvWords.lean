-- Of the kit's words those that this claim names (left out by wip/trim.py: the others).
import Derived.Test.YtdcakddfibnllaaWInv
import Derived.Test.YtdcakddfibnllaaWFootNe
namespace Go.Proofs.YtdcakddfibnllaaW.PrintWords
open Go.RowKit
end Go.Proofs.YtdcakddfibnllaaW.PrintWords
namespace Go.Proofs.YtdcakddfibnllaaW.PrintLast
section
variable {ops : Array Oper} {a : Act} {o og : Oper} {g : Nat} {t : Tmp} {u : Bool}
end
end Go.Proofs.YtdcakddfibnllaaW.PrintLast

