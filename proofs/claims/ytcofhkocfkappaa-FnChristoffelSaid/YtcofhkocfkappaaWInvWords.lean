-- Of the kit's words those that this claim names (left out by wip/trim.py: the others).
import Derived.Test.YtcofhkocfkappaaWInv
import Derived.Test.YtcofhkocfkappaaWFootNe
namespace Go.Proofs.YtcofhkocfkappaaW.PrintWords
open Go.RowKit
/-- Two rows, one made behind the other's standing. -/
theorem own_apart {v1 v2 : Value} {n : Nat} (hlt : ∀ k, v1.ownBlock = some k → k < n) (hge : ∀ k, v2.ownBlock = some k → n ≤ k) : v1.ownBlock = none ∨ v1.ownBlock ≠ v2.ownBlock := by
  cases h : v1.ownBlock with
  | none => exact .inl rfl
  | some k => exact .inr (fun e => by have := hlt k h; have := hge k e.symm; omega)
end Go.Proofs.YtcofhkocfkappaaW.PrintWords
namespace Go.Proofs.YtcofhkocfkappaaW.PrintLast
section
variable {ops : Array Oper} {a : Act} {o og : Oper} {g : Nat} {t : Tmp} {u : Bool}
end
end Go.Proofs.YtcofhkocfkappaaW.PrintLast

