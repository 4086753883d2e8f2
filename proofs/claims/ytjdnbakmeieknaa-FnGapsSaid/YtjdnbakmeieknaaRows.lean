/-
  No cell of these rows narrows 'for every input' (looked for: loops, veiled, ifaces, maps, wideKeys, modest, calm, conditions, laid).
  DERIVED. THE GIVEN ROWS OF THIS SEAT. 6 by the template 'for every input the law returns true; each argument reads behind the call as it read before'; 0 by the template 'total and deterministic' (their statements: YtjdnbakmeieknaaTotals.lean).
  GIVEN WITH THE SEED: the statements are not yours to turn. If you find one false, say at which input.
  Laid BY PROGRAM, IN A SANDBOX (cutbox-rows.mjs): the forced cells as the released guide's own fill.sh prints them over the translation 7d382ce29b94c739… (all of the seat's roots in one cut). By AI agents, Wed Nov 11 2026. No macro, syntax, notation, axiom, sorry.
-/
import Derived.Test.YtjdnbakmeieknaaChecked
import GoSem.Claim
import GoSem.ClaimJoined
import GoSem.ClaimMapViews
import Derived.JoinedTies
import Derived.KernelRfl
namespace Go.Proofs.Ytjdnbakmeieknaa
/- THE CELL 'sum', in the pinned program and in every row, IS THE sha256 OF THE DUMP (.gsa) THAT YtjdnbakmeieknaaProg.lean LOADS. Nothing in Lean hashes anything: it is a label: what it is worth is what the hold of that sum in a sandbox is worth. -/
noncomputable def Try.pinned : Pinned := { name := "ytjdnbakmeieknaa", sum := "7d382ce29b94c7395985d9ff276d0a3bef4cc7e65441cf08292184e99f3c4aa1", checked := Try.checked }
namespace Rows
def none {H : Type} : Left H := { results := [], args := [] }

/-- 'laws.FnExactNeighbourOf': WHATEVER THE INPUT: true; the input reads as it did. -/
def fnExactNeighbourOfSpec : ChangeSpec := { name := "fnExactNeighbourOf", fn := fun _ => fun
  | [d1, d2, d3, d4] => { results := [.lit (.bool true)], args := [d1, d2, d3, d4] }
  | _ => none }
def fnExactNeighbourOfRow : OpenClaim := { program := "ytjdnbakmeieknaa", sum := "7d382ce29b94c7395985d9ff276d0a3bef4cc7e65441cf08292184e99f3c4aa1", func := "loop.example/g02079/laws.FnExactNeighbourOf", spec := "fnExactNeighbourOf", recurses := true, apart := false }
def FnExactNeighbourOfSaid : Prop := fnExactNeighbourOfRow.holds Try.pinned (OpenSpec.ofChange fnExactNeighbourOfSpec)

/-- ITS FALSE NEIGHBOUR: 'it returns false'. Refute it at one input. -/
def fnExactNeighbourOfWrong : ChangeSpec := { name := "fnExactNeighbourOf", fn := fun _ => fun
  | [d1, d2, d3, d4] => { results := [.lit (.bool false)], args := [d1, d2, d3, d4] }
  | _ => none }
def FnExactNeighbourOfWrongFalsely : Prop := fnExactNeighbourOfRow.holds Try.pinned (OpenSpec.ofChange fnExactNeighbourOfWrong)

/-- 'laws.FnExactCutWord': WHATEVER THE INPUT: true; the input reads as it did. -/
def fnExactCutWordSpec : ChangeSpec := { name := "fnExactCutWord", fn := fun _ => fun
  | [d1, d2, d3, d4] => { results := [.lit (.bool true)], args := [d1, d2, d3, d4] }
  | _ => none }
def fnExactCutWordRow : OpenClaim := { program := "ytjdnbakmeieknaa", sum := "7d382ce29b94c7395985d9ff276d0a3bef4cc7e65441cf08292184e99f3c4aa1", func := "loop.example/g02079/laws.FnExactCutWord", spec := "fnExactCutWord", recurses := true, apart := false }
def FnExactCutWordSaid : Prop := fnExactCutWordRow.holds Try.pinned (OpenSpec.ofChange fnExactCutWordSpec)

/-- ITS FALSE NEIGHBOUR: 'it returns false'. Refute it at one input. -/
def fnExactCutWordWrong : ChangeSpec := { name := "fnExactCutWord", fn := fun _ => fun
  | [d1, d2, d3, d4] => { results := [.lit (.bool false)], args := [d1, d2, d3, d4] }
  | _ => none }
def FnExactCutWordWrongFalsely : Prop := fnExactCutWordRow.holds Try.pinned (OpenSpec.ofChange fnExactCutWordWrong)

/-- 'laws.FnExactPointsOf': WHATEVER THE INPUT: true; the input reads as it did. -/
def fnExactPointsOfSpec : ChangeSpec := { name := "fnExactPointsOf", fn := fun _ => fun
  | [d1, d2, d3] => { results := [.lit (.bool true)], args := [d1, d2, d3] }
  | _ => none }
def fnExactPointsOfRow : OpenClaim := { program := "ytjdnbakmeieknaa", sum := "7d382ce29b94c7395985d9ff276d0a3bef4cc7e65441cf08292184e99f3c4aa1", func := "loop.example/g02079/laws.FnExactPointsOf", spec := "fnExactPointsOf", recurses := true, apart := false }
def FnExactPointsOfSaid : Prop := fnExactPointsOfRow.holds Try.pinned (OpenSpec.ofChange fnExactPointsOfSpec)

/-- ITS FALSE NEIGHBOUR: 'it returns false'. Refute it at one input. -/
def fnExactPointsOfWrong : ChangeSpec := { name := "fnExactPointsOf", fn := fun _ => fun
  | [d1, d2, d3] => { results := [.lit (.bool false)], args := [d1, d2, d3] }
  | _ => none }
def FnExactPointsOfWrongFalsely : Prop := fnExactPointsOfRow.holds Try.pinned (OpenSpec.ofChange fnExactPointsOfWrong)

/-- 'laws.FnExactGapsOf': WHATEVER THE INPUT: true; the input reads as it did. -/
def fnExactGapsOfSpec : ChangeSpec := { name := "fnExactGapsOf", fn := fun _ => fun
  | [d1, d2, d3] => { results := [.lit (.bool true)], args := [d1, d2, d3] }
  | _ => none }
def fnExactGapsOfRow : OpenClaim := { program := "ytjdnbakmeieknaa", sum := "7d382ce29b94c7395985d9ff276d0a3bef4cc7e65441cf08292184e99f3c4aa1", func := "loop.example/g02079/laws.FnExactGapsOf", spec := "fnExactGapsOf", recurses := true, apart := false }
def FnExactGapsOfSaid : Prop := fnExactGapsOfRow.holds Try.pinned (OpenSpec.ofChange fnExactGapsOfSpec)

/-- ITS FALSE NEIGHBOUR: 'it returns false'. Refute it at one input. -/
def fnExactGapsOfWrong : ChangeSpec := { name := "fnExactGapsOf", fn := fun _ => fun
  | [d1, d2, d3] => { results := [.lit (.bool false)], args := [d1, d2, d3] }
  | _ => none }
def FnExactGapsOfWrongFalsely : Prop := fnExactGapsOfRow.holds Try.pinned (OpenSpec.ofChange fnExactGapsOfWrong)

/-- 'laws.FnExactGapLengths': WHATEVER THE INPUT: true; the input reads as it did. -/
def fnExactGapLengthsSpec : ChangeSpec := { name := "fnExactGapLengths", fn := fun _ => fun
  | [d1, d2, d3] => { results := [.lit (.bool true)], args := [d1, d2, d3] }
  | _ => none }
def fnExactGapLengthsRow : OpenClaim := { program := "ytjdnbakmeieknaa", sum := "7d382ce29b94c7395985d9ff276d0a3bef4cc7e65441cf08292184e99f3c4aa1", func := "loop.example/g02079/laws.FnExactGapLengths", spec := "fnExactGapLengths", recurses := true, apart := false }
def FnExactGapLengthsSaid : Prop := fnExactGapLengthsRow.holds Try.pinned (OpenSpec.ofChange fnExactGapLengthsSpec)

/-- ITS FALSE NEIGHBOUR: 'it returns false'. Refute it at one input. -/
def fnExactGapLengthsWrong : ChangeSpec := { name := "fnExactGapLengths", fn := fun _ => fun
  | [d1, d2, d3] => { results := [.lit (.bool false)], args := [d1, d2, d3] }
  | _ => none }
def FnExactGapLengthsWrongFalsely : Prop := fnExactGapLengthsRow.holds Try.pinned (OpenSpec.ofChange fnExactGapLengthsWrong)

/-- 'laws.FnGaps': WHATEVER THE INPUT: true; the input reads as it did. -/
def fnGapsSpec : ChangeSpec := { name := "fnGaps", fn := fun _ => fun
  | [d] => { results := [.lit (.bool true)], args := [d] }
  | _ => none }
def fnGapsRow : OpenClaim := { program := "ytjdnbakmeieknaa", sum := "7d382ce29b94c7395985d9ff276d0a3bef4cc7e65441cf08292184e99f3c4aa1", func := "loop.example/g02079/laws.FnGaps", spec := "fnGaps", recurses := true, apart := false }
def FnGapsSaid : Prop := fnGapsRow.holds Try.pinned (OpenSpec.ofChange fnGapsSpec)

/-- ITS FALSE NEIGHBOUR: 'it returns false'. Refute it at one input. -/
def fnGapsWrong : ChangeSpec := { name := "fnGaps", fn := fun _ => fun
  | [d] => { results := [.lit (.bool false)], args := [d] }
  | _ => none }
def FnGapsWrongFalsely : Prop := fnGapsRow.holds Try.pinned (OpenSpec.ofChange fnGapsWrong)

/- THE SECOND FORM. 'bulk': how many values and letters a reading holds, each counted each time it is reached (what is shared counts as often as it is met; a slice's spare places count too). A statement '..UptoSaid' is the law's where the arguments, and the package variables that the reading takes, are together of bulk at most 1048576: NARROWER than '..Said'. Prove '..Said' where nothing that the law and all that it calls make is longer than what came in: it says more and counts as full. Else prove '..UptoSaid'. A law counts once. -/
mutual
def uptoBulk {H : Type} : DataW H → Nat
  | .lit (.string bytes) => bytes.length + 1
  | .lit _ => 1
  | .nil => 1
  | .ptr d => uptoBulk d + 1
  | .slice elems spare => uptoBulkAll elems + uptoBulkAll spare + 1
  | .agg parts => uptoBulkAll parts + 1
  | .iface _ d => uptoBulk d + 1
  | .map entries => uptoBulkEntries entries + 1
  | .held _ => 1
def uptoBulkAll {H : Type} : List (DataW H) → Nat
  | [] => 0
  | d :: r => uptoBulk d + uptoBulkAll r
def uptoBulkEntries {H : Type} : List (Lit × DataW H) → Nat
  | [] => 0
  | x :: r => uptoBulkEntry x + uptoBulkEntries r
def uptoBulkEntry {H : Type} : Lit × DataW H → Nat
  | (.string bytes, d) => bytes.length + uptoBulk d + 1
  | (_, d) => uptoBulk d + 1
 end
def uptoSmall : (H : Type) → List (DataW H) → Bool := fun _ ds => decide (uptoBulkAll ds ≤ 1048576)
def OpenSpec.upto (s : _root_.Go.ChangeSpec) : _root_.Go.OpenSpec := { _root_.Go.OpenSpec.ofChange s with cond := some uptoSmall }

/-- 'laws.FnExactNeighbourOf', WHERE WHAT IT READS IS OF BULK AT MOST 1048576: true; the input reads as it did. -/
def fnExactNeighbourOfUptoRow : OpenClaim := { program := "ytjdnbakmeieknaa", sum := "7d382ce29b94c7395985d9ff276d0a3bef4cc7e65441cf08292184e99f3c4aa1", func := "loop.example/g02079/laws.FnExactNeighbourOf", spec := "fnExactNeighbourOf", recurses := true, apart := false, narrowed := true }
def FnExactNeighbourOfUptoSaid : Prop := fnExactNeighbourOfUptoRow.holds Try.pinned (OpenSpec.upto fnExactNeighbourOfSpec)

/-- 'laws.FnExactCutWord', WHERE WHAT IT READS IS OF BULK AT MOST 1048576: true; the input reads as it did. -/
def fnExactCutWordUptoRow : OpenClaim := { program := "ytjdnbakmeieknaa", sum := "7d382ce29b94c7395985d9ff276d0a3bef4cc7e65441cf08292184e99f3c4aa1", func := "loop.example/g02079/laws.FnExactCutWord", spec := "fnExactCutWord", recurses := true, apart := false, narrowed := true }
def FnExactCutWordUptoSaid : Prop := fnExactCutWordUptoRow.holds Try.pinned (OpenSpec.upto fnExactCutWordSpec)

/-- 'laws.FnExactPointsOf', WHERE WHAT IT READS IS OF BULK AT MOST 1048576: true; the input reads as it did. -/
def fnExactPointsOfUptoRow : OpenClaim := { program := "ytjdnbakmeieknaa", sum := "7d382ce29b94c7395985d9ff276d0a3bef4cc7e65441cf08292184e99f3c4aa1", func := "loop.example/g02079/laws.FnExactPointsOf", spec := "fnExactPointsOf", recurses := true, apart := false, narrowed := true }
def FnExactPointsOfUptoSaid : Prop := fnExactPointsOfUptoRow.holds Try.pinned (OpenSpec.upto fnExactPointsOfSpec)

/-- 'laws.FnExactGapsOf', WHERE WHAT IT READS IS OF BULK AT MOST 1048576: true; the input reads as it did. -/
def fnExactGapsOfUptoRow : OpenClaim := { program := "ytjdnbakmeieknaa", sum := "7d382ce29b94c7395985d9ff276d0a3bef4cc7e65441cf08292184e99f3c4aa1", func := "loop.example/g02079/laws.FnExactGapsOf", spec := "fnExactGapsOf", recurses := true, apart := false, narrowed := true }
def FnExactGapsOfUptoSaid : Prop := fnExactGapsOfUptoRow.holds Try.pinned (OpenSpec.upto fnExactGapsOfSpec)

/-- 'laws.FnExactGapLengths', WHERE WHAT IT READS IS OF BULK AT MOST 1048576: true; the input reads as it did. -/
def fnExactGapLengthsUptoRow : OpenClaim := { program := "ytjdnbakmeieknaa", sum := "7d382ce29b94c7395985d9ff276d0a3bef4cc7e65441cf08292184e99f3c4aa1", func := "loop.example/g02079/laws.FnExactGapLengths", spec := "fnExactGapLengths", recurses := true, apart := false, narrowed := true }
def FnExactGapLengthsUptoSaid : Prop := fnExactGapLengthsUptoRow.holds Try.pinned (OpenSpec.upto fnExactGapLengthsSpec)

/-- 'laws.FnGaps', WHERE WHAT IT READS IS OF BULK AT MOST 1048576: true; the input reads as it did. -/
def fnGapsUptoRow : OpenClaim := { program := "ytjdnbakmeieknaa", sum := "7d382ce29b94c7395985d9ff276d0a3bef4cc7e65441cf08292184e99f3c4aa1", func := "loop.example/g02079/laws.FnGaps", spec := "fnGaps", recurses := true, apart := false, narrowed := true }
def FnGapsUptoSaid : Prop := fnGapsUptoRow.holds Try.pinned (OpenSpec.upto fnGapsSpec)

end Rows
end Go.Proofs.Ytjdnbakmeieknaa
