-- Of the kit's words those that this claim names.
import Derived.Test.YtgmfjcckmapkbaaWInv
import Derived.Test.YtgmfjcckmapkbaaWFootNe
namespace Go.Proofs.YtgmfjcckmapkbaaW.PrintWords
open Go.RowKit
end Go.Proofs.YtgmfjcckmapkbaaW.PrintWords
namespace Go.Proofs.YtgmfjcckmapkbaaW.PrintLast
section
variable {ops : Array Oper} {a : Act} {o og : Oper} {g : Nat} {t : Tmp} {u : Bool}
end
end Go.Proofs.YtgmfjcckmapkbaaW.PrintLast
