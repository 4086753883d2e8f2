/-
  No cell of these rows narrows 'for every input' (looked for: loops, veiled, ifaces, maps, wideKeys, modest, calm, conditions, laid).
  DERIVED. THE GIVEN ROWS OF THIS SEAT. 3 by the template 'for every input the law returns true; each argument reads behind the call as it read before'; 0 by the template 'total and deterministic' (their statements: YtfgjhhapocbhaaaTotals.lean).
  GIVEN WITH THE SEED: the statements are not yours to turn. If you find one false, say at which input.
  Laid BY PROGRAM, IN A SANDBOX (cutbox-rows.mjs): the forced cells as the released guide's own fill.sh prints them over the translation 9272a8e5f385a4a3… (all of the seat's roots in one cut). By AI agents, Wed Nov 11 2026. No macro, syntax, notation, axiom, sorry.
-/
import Derived.Test.YtfgjhhapocbhaaaChecked
import GoSem.Claim
import GoSem.ClaimJoined
import GoSem.ClaimMapViews
import Derived.JoinedTies
import Derived.KernelRfl
namespace Go.Proofs.Ytfgjhhapocbhaaa
/- THE CELL 'sum', in the pinned program and in every row, IS THE sha256 OF THE DUMP (.gsa) THAT YtfgjhhapocbhaaaProg.lean LOADS. Nothing in Lean hashes anything: it is a label: what it is worth is what the hold of that sum in a sandbox is worth. -/
noncomputable def Try.pinned : Pinned := { name := "ytfgjhhapocbhaaa", sum := "9272a8e5f385a4a329bbd59c1bd060a61f11c7f05e45fc0c3046c84d97d4039f", checked := Try.checked }
namespace Rows
def none {H : Type} : Left H := { results := [], args := [] }

/-- 'laws.FnExactIsSturmianPrefix': WHATEVER THE INPUT: true; the input reads as it did. -/
def fnExactIsSturmianPrefixSpec : ChangeSpec := { name := "fnExactIsSturmianPrefix", fn := fun _ => fun
  | [d1, d2] => { results := [.lit (.bool true)], args := [d1, d2] }
  | _ => none }
def fnExactIsSturmianPrefixRow : OpenClaim := { program := "ytfgjhhapocbhaaa", sum := "9272a8e5f385a4a329bbd59c1bd060a61f11c7f05e45fc0c3046c84d97d4039f", func := "loop.example/g02079/laws.FnExactIsSturmianPrefix", spec := "fnExactIsSturmianPrefix", unfollowed := true, recurses := true, apart := false }
def FnExactIsSturmianPrefixSaid : Prop := fnExactIsSturmianPrefixRow.holds Try.pinned (OpenSpec.ofChange fnExactIsSturmianPrefixSpec)

/-- ITS FALSE NEIGHBOUR: 'it returns false'. Refute it at one input. -/
def fnExactIsSturmianPrefixWrong : ChangeSpec := { name := "fnExactIsSturmianPrefix", fn := fun _ => fun
  | [d1, d2] => { results := [.lit (.bool false)], args := [d1, d2] }
  | _ => none }
def FnExactIsSturmianPrefixWrongFalsely : Prop := fnExactIsSturmianPrefixRow.holds Try.pinned (OpenSpec.ofChange fnExactIsSturmianPrefixWrong)

/-- 'laws.FnExactRichnessOf': WHATEVER THE INPUT: true; the input reads as it did. -/
def fnExactRichnessOfSpec : ChangeSpec := { name := "fnExactRichnessOf", fn := fun _ => fun
  | [d] => { results := [.lit (.bool true)], args := [d] }
  | _ => none }
def fnExactRichnessOfRow : OpenClaim := { program := "ytfgjhhapocbhaaa", sum := "9272a8e5f385a4a329bbd59c1bd060a61f11c7f05e45fc0c3046c84d97d4039f", func := "loop.example/g02079/laws.FnExactRichnessOf", spec := "fnExactRichnessOf", unfollowed := true, recurses := true, apart := false }
def FnExactRichnessOfSaid : Prop := fnExactRichnessOfRow.holds Try.pinned (OpenSpec.ofChange fnExactRichnessOfSpec)

/-- ITS FALSE NEIGHBOUR: 'it returns false'. Refute it at one input. -/
def fnExactRichnessOfWrong : ChangeSpec := { name := "fnExactRichnessOf", fn := fun _ => fun
  | [d] => { results := [.lit (.bool false)], args := [d] }
  | _ => none }
def FnExactRichnessOfWrongFalsely : Prop := fnExactRichnessOfRow.holds Try.pinned (OpenSpec.ofChange fnExactRichnessOfWrong)

/-- 'laws.FnExactIsRich': WHATEVER THE INPUT: true; the input reads as it did. -/
def fnExactIsRichSpec : ChangeSpec := { name := "fnExactIsRich", fn := fun _ => fun
  | [d] => { results := [.lit (.bool true)], args := [d] }
  | _ => none }
def fnExactIsRichRow : OpenClaim := { program := "ytfgjhhapocbhaaa", sum := "9272a8e5f385a4a329bbd59c1bd060a61f11c7f05e45fc0c3046c84d97d4039f", func := "loop.example/g02079/laws.FnExactIsRich", spec := "fnExactIsRich", unfollowed := true, recurses := true, apart := false }
def FnExactIsRichSaid : Prop := fnExactIsRichRow.holds Try.pinned (OpenSpec.ofChange fnExactIsRichSpec)

/-- ITS FALSE NEIGHBOUR: 'it returns false'. Refute it at one input. -/
def fnExactIsRichWrong : ChangeSpec := { name := "fnExactIsRich", fn := fun _ => fun
  | [d] => { results := [.lit (.bool false)], args := [d] }
  | _ => none }
def FnExactIsRichWrongFalsely : Prop := fnExactIsRichRow.holds Try.pinned (OpenSpec.ofChange fnExactIsRichWrong)

/- THE SECOND FORM. 'bulk': how many values and letters a reading holds, each counted each time it is reached (what is shared counts as often as it is met; a slice's spare places count too). A statement '..UptoSaid' is the law's where the arguments, and the package variables that the reading takes, are together of bulk at most 1048576: NARROWER than '..Said'. Prove '..Said' where nothing that the law and all that it calls make is longer than what came in: it says more and counts as full. Else prove '..UptoSaid'. A law counts once. -/
mutual
def uptoBulk {H : Type} : DataW H → Nat
  | .lit (.string bytes) => bytes.length + 1
  | .lit _ => 1
  | .nil => 1
  | .ptr d => uptoBulk d + 1
  | .slice elems spare => uptoBulkAll elems + uptoBulkAll spare + 1
  | .agg parts => uptoBulkAll parts + 1
  | .iface _ d => uptoBulk d + 1
  | .map entries => uptoBulkEntries entries + 1
  | .held _ => 1
def uptoBulkAll {H : Type} : List (DataW H) → Nat
  | [] => 0
  | d :: r => uptoBulk d + uptoBulkAll r
def uptoBulkEntries {H : Type} : List (Lit × DataW H) → Nat
  | [] => 0
  | x :: r => uptoBulkEntry x + uptoBulkEntries r
def uptoBulkEntry {H : Type} : Lit × DataW H → Nat
  | (.string bytes, d) => bytes.length + uptoBulk d + 1
  | (_, d) => uptoBulk d + 1
 end
def uptoSmall : (H : Type) → List (DataW H) → Bool := fun _ ds => decide (uptoBulkAll ds ≤ 1048576)
def OpenSpec.upto (s : _root_.Go.ChangeSpec) : _root_.Go.OpenSpec := { _root_.Go.OpenSpec.ofChange s with cond := some uptoSmall }

/-- 'laws.FnExactIsSturmianPrefix', WHERE WHAT IT READS IS OF BULK AT MOST 1048576: true; the input reads as it did. -/
def fnExactIsSturmianPrefixUptoRow : OpenClaim := { program := "ytfgjhhapocbhaaa", sum := "9272a8e5f385a4a329bbd59c1bd060a61f11c7f05e45fc0c3046c84d97d4039f", func := "loop.example/g02079/laws.FnExactIsSturmianPrefix", spec := "fnExactIsSturmianPrefix", unfollowed := true, recurses := true, apart := false, narrowed := true }
def FnExactIsSturmianPrefixUptoSaid : Prop := fnExactIsSturmianPrefixUptoRow.holds Try.pinned (OpenSpec.upto fnExactIsSturmianPrefixSpec)

/-- 'laws.FnExactRichnessOf', WHERE WHAT IT READS IS OF BULK AT MOST 1048576: true; the input reads as it did. -/
def fnExactRichnessOfUptoRow : OpenClaim := { program := "ytfgjhhapocbhaaa", sum := "9272a8e5f385a4a329bbd59c1bd060a61f11c7f05e45fc0c3046c84d97d4039f", func := "loop.example/g02079/laws.FnExactRichnessOf", spec := "fnExactRichnessOf", unfollowed := true, recurses := true, apart := false, narrowed := true }
def FnExactRichnessOfUptoSaid : Prop := fnExactRichnessOfUptoRow.holds Try.pinned (OpenSpec.upto fnExactRichnessOfSpec)

/-- 'laws.FnExactIsRich', WHERE WHAT IT READS IS OF BULK AT MOST 1048576: true; the input reads as it did. -/
def fnExactIsRichUptoRow : OpenClaim := { program := "ytfgjhhapocbhaaa", sum := "9272a8e5f385a4a329bbd59c1bd060a61f11c7f05e45fc0c3046c84d97d4039f", func := "loop.example/g02079/laws.FnExactIsRich", spec := "fnExactIsRich", unfollowed := true, recurses := true, apart := false, narrowed := true }
def FnExactIsRichUptoSaid : Prop := fnExactIsRichUptoRow.holds Try.pinned (OpenSpec.upto fnExactIsRichSpec)

end Rows
end Go.Proofs.Ytfgjhhapocbhaaa
