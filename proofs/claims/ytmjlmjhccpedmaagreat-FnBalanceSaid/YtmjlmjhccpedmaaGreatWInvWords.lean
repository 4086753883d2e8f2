-- Of the kit's words those that this claim names.
import Derived.Test.YtmjlmjhccpedmaaGreatWInv
import Derived.Test.YtmjlmjhccpedmaaGreatWFootNe
namespace Go.Proofs.YtmjlmjhccpedmaaGreatW.PrintWords
open Go.RowKit
end Go.Proofs.YtmjlmjhccpedmaaGreatW.PrintWords
namespace Go.Proofs.YtmjlmjhccpedmaaGreatW.PrintLast
section
variable {ops : Array Oper} {a : Act} {o og : Oper} {g : Nat} {t : Tmp} {u : Bool}
end
end Go.Proofs.YtmjlmjhccpedmaaGreatW.PrintLast
