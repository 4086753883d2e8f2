-- Of the kit's words those that this claim names (left out by wip/trim.py: the others).
import Derived.Test.YtdcakddfibnllaaWWords
import Derived.Laws.StructEq
/-! ### 53. '==' of structs as_ one Bool -/
namespace Go.Proofs.YtdcakddfibnllaaW.PrintWords
open Go.RowKit
section
variable {P : Program} {d : Nat} {xs ys : Array Value} {f : Field} {fs : List Field} {a b : Value} {r s : Bool} {w : World}
end
end Go.Proofs.YtdcakddfibnllaaW.PrintWords

