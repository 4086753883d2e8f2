/-
  No cell of these rows narrows 'for every input' (looked for: loops, veiled, ifaces, maps, wideKeys, modest, calm, conditions, laid).
  DERIVED. THE GIVEN ROWS OF THIS SEAT. 3 by the template 'for every input the law returns true; each argument reads behind the call as it read before'; 0 by the template 'total and deterministic' (their statements: YtgmfjcckmapkbaaTotals.lean).
  GIVEN WITH THE SEED: the statements are not yours to turn. If you find one false, say at which input.
  Laid BY PROGRAM, IN A SANDBOX (cutbox-rows.mjs): the forced cells as the released guide's own fill.sh prints them over the translation 221b7b01292342a6… (all of the seat's roots in one cut). By AI agents, Wed Nov 11 2026. No macro, syntax, notation, axiom, sorry.
-/
import Derived.Test.YtgmfjcckmapkbaaChecked
import GoSem.Claim
import GoSem.ClaimJoined
import GoSem.ClaimMapViews
import Derived.JoinedTies
import Derived.KernelRfl
namespace Go.Proofs.Ytgmfjcckmapkbaa
/- THE CELL 'sum', in the pinned program and in every row, IS THE sha256 OF THE DUMP (.gsa) THAT YtgmfjcckmapkbaaProg.lean LOADS. Nothing in Lean hashes anything: it is a label: what it is worth is what the hold of that sum in a sandbox is worth. -/
noncomputable def Try.pinned : Pinned := { name := "ytgmfjcckmapkbaa", sum := "221b7b01292342a6bdfc60e36e76d4e511ed6569d75a4deba4ad06aa6f5e98f2", checked := Try.checked }
namespace Rows
def none {H : Type} : Left H := { results := [], args := [] }

/-- 'laws.FnExactCountingForm': WHATEVER THE INPUT: true; the input reads as it did. -/
def fnExactCountingFormSpec : ChangeSpec := { name := "fnExactCountingForm", fn := fun _ => fun
  | [d1, d2] => { results := [.lit (.bool true)], args := [d1, d2] }
  | _ => none }
def fnExactCountingFormRow : OpenClaim := { program := "ytgmfjcckmapkbaa", sum := "221b7b01292342a6bdfc60e36e76d4e511ed6569d75a4deba4ad06aa6f5e98f2", func := "loop.example/g02079/laws.FnExactCountingForm", spec := "fnExactCountingForm", apart := false }
def FnExactCountingFormSaid : Prop := fnExactCountingFormRow.holds Try.pinned (OpenSpec.ofChange fnExactCountingFormSpec)

/-- ITS FALSE NEIGHBOUR: 'it returns false'. Refute it at one input. -/
def fnExactCountingFormWrong : ChangeSpec := { name := "fnExactCountingForm", fn := fun _ => fun
  | [d1, d2] => { results := [.lit (.bool false)], args := [d1, d2] }
  | _ => none }
def FnExactCountingFormWrongFalsely : Prop := fnExactCountingFormRow.holds Try.pinned (OpenSpec.ofChange fnExactCountingFormWrong)

/-- 'laws.FnExactCountByForm': WHATEVER THE INPUT: true; the input reads as it did. -/
def fnExactCountByFormSpec : ChangeSpec := { name := "fnExactCountByForm", fn := fun _ => fun
  | [d1, d2, d3] => { results := [.lit (.bool true)], args := [d1, d2, d3] }
  | _ => none }
def fnExactCountByFormRow : OpenClaim := { program := "ytgmfjcckmapkbaa", sum := "221b7b01292342a6bdfc60e36e76d4e511ed6569d75a4deba4ad06aa6f5e98f2", func := "loop.example/g02079/laws.FnExactCountByForm", spec := "fnExactCountByForm", apart := false }
def FnExactCountByFormSaid : Prop := fnExactCountByFormRow.holds Try.pinned (OpenSpec.ofChange fnExactCountByFormSpec)

/-- ITS FALSE NEIGHBOUR: 'it returns false'. Refute it at one input. -/
def fnExactCountByFormWrong : ChangeSpec := { name := "fnExactCountByForm", fn := fun _ => fun
  | [d1, d2, d3] => { results := [.lit (.bool false)], args := [d1, d2, d3] }
  | _ => none }
def FnExactCountByFormWrongFalsely : Prop := fnExactCountByFormRow.holds Try.pinned (OpenSpec.ofChange fnExactCountByFormWrong)

/-- 'laws.FnExactPrefixSum': WHATEVER THE INPUT: true; the input reads as it did. -/
def fnExactPrefixSumSpec : ChangeSpec := { name := "fnExactPrefixSum", fn := fun _ => fun
  | [d1, d2] => { results := [.lit (.bool true)], args := [d1, d2] }
  | _ => none }
def fnExactPrefixSumRow : OpenClaim := { program := "ytgmfjcckmapkbaa", sum := "221b7b01292342a6bdfc60e36e76d4e511ed6569d75a4deba4ad06aa6f5e98f2", func := "loop.example/g02079/laws.FnExactPrefixSum", spec := "fnExactPrefixSum", apart := false }
def FnExactPrefixSumSaid : Prop := fnExactPrefixSumRow.holds Try.pinned (OpenSpec.ofChange fnExactPrefixSumSpec)

/-- ITS FALSE NEIGHBOUR: 'it returns false'. Refute it at one input. -/
def fnExactPrefixSumWrong : ChangeSpec := { name := "fnExactPrefixSum", fn := fun _ => fun
  | [d1, d2] => { results := [.lit (.bool false)], args := [d1, d2] }
  | _ => none }
def FnExactPrefixSumWrongFalsely : Prop := fnExactPrefixSumRow.holds Try.pinned (OpenSpec.ofChange fnExactPrefixSumWrong)

/- THE SECOND FORM. 'bulk': how many values and letters a reading holds, each counted each time it is reached (what is shared counts as often as it is met; a slice's spare places count too). A statement '..UptoSaid' is the law's where the arguments, and the package variables that the reading takes, are together of bulk at most 1048576: NARROWER than '..Said'. Prove '..Said' where nothing that the law and all that it calls make is longer than what came in: it says more and counts as full. Else prove '..UptoSaid'. A law counts once. -/
mutual
def uptoBulk {H : Type} : DataW H → Nat
  | .lit (.string bytes) => bytes.length + 1
  | .lit _ => 1
  | .nil => 1
  | .ptr d => uptoBulk d + 1
  | .slice elems spare => uptoBulkAll elems + uptoBulkAll spare + 1
  | .agg parts => uptoBulkAll parts + 1
  | .iface _ d => uptoBulk d + 1
  | .map entries => uptoBulkEntries entries + 1
  | .held _ => 1
def uptoBulkAll {H : Type} : List (DataW H) → Nat
  | [] => 0
  | d :: r => uptoBulk d + uptoBulkAll r
def uptoBulkEntries {H : Type} : List (Lit × DataW H) → Nat
  | [] => 0
  | x :: r => uptoBulkEntry x + uptoBulkEntries r
def uptoBulkEntry {H : Type} : Lit × DataW H → Nat
  | (.string bytes, d) => bytes.length + uptoBulk d + 1
  | (_, d) => uptoBulk d + 1
 end
def uptoSmall : (H : Type) → List (DataW H) → Bool := fun _ ds => decide (uptoBulkAll ds ≤ 1048576)
def OpenSpec.upto (s : _root_.Go.ChangeSpec) : _root_.Go.OpenSpec := { _root_.Go.OpenSpec.ofChange s with cond := some uptoSmall }

/-- 'laws.FnExactCountingForm', WHERE WHAT IT READS IS OF BULK AT MOST 1048576: true; the input reads as it did. -/
def fnExactCountingFormUptoRow : OpenClaim := { program := "ytgmfjcckmapkbaa", sum := "221b7b01292342a6bdfc60e36e76d4e511ed6569d75a4deba4ad06aa6f5e98f2", func := "loop.example/g02079/laws.FnExactCountingForm", spec := "fnExactCountingForm", apart := false, narrowed := true }
def FnExactCountingFormUptoSaid : Prop := fnExactCountingFormUptoRow.holds Try.pinned (OpenSpec.upto fnExactCountingFormSpec)

/-- 'laws.FnExactCountByForm', WHERE WHAT IT READS IS OF BULK AT MOST 1048576: true; the input reads as it did. -/
def fnExactCountByFormUptoRow : OpenClaim := { program := "ytgmfjcckmapkbaa", sum := "221b7b01292342a6bdfc60e36e76d4e511ed6569d75a4deba4ad06aa6f5e98f2", func := "loop.example/g02079/laws.FnExactCountByForm", spec := "fnExactCountByForm", apart := false, narrowed := true }
def FnExactCountByFormUptoSaid : Prop := fnExactCountByFormUptoRow.holds Try.pinned (OpenSpec.upto fnExactCountByFormSpec)

/-- 'laws.FnExactPrefixSum', WHERE WHAT IT READS IS OF BULK AT MOST 1048576: true; the input reads as it did. -/
def fnExactPrefixSumUptoRow : OpenClaim := { program := "ytgmfjcckmapkbaa", sum := "221b7b01292342a6bdfc60e36e76d4e511ed6569d75a4deba4ad06aa6f5e98f2", func := "loop.example/g02079/laws.FnExactPrefixSum", spec := "fnExactPrefixSum", apart := false, narrowed := true }
def FnExactPrefixSumUptoSaid : Prop := fnExactPrefixSumUptoRow.holds Try.pinned (OpenSpec.upto fnExactPrefixSumSpec)

end Rows
end Go.Proofs.Ytgmfjcckmapkbaa
