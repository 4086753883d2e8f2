-- Of the kit's words those that this claim names.
import Derived.Test.YtnhpbmagbajliaaWInv
import Derived.Test.YtnhpbmagbajliaaWFootNe
namespace Go.Proofs.YtnhpbmagbajliaaW.PrintWords
open Go.RowKit
end Go.Proofs.YtnhpbmagbajliaaW.PrintWords
namespace Go.Proofs.YtnhpbmagbajliaaW.PrintLast
section
variable {ops : Array Oper} {a : Act} {o og : Oper} {g : Nat} {t : Tmp} {u : Bool}
end
end Go.Proofs.YtnhpbmagbajliaaW.PrintLast
