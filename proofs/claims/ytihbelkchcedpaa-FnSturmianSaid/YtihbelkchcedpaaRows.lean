/-
  No cell of these rows narrows 'for every input' (looked for: loops, veiled, ifaces, maps, wideKeys, modest, calm, conditions, laid).
  DERIVED. THE GIVEN ROWS OF THIS SEAT. 12 by the template 'for every input the law returns true; each argument reads behind the call as it read before'; 0 by the template 'total and deterministic' (their statements: YtihbelkchcedpaaTotals.lean).
  GIVEN WITH THE SEED: the statements are not yours to turn. If you find one false, say at which input.
  Laid BY PROGRAM, IN A SANDBOX (cutbox-rows.mjs): the forced cells as the released guide's own fill.sh prints them over the translation 3ecc76c8d107a704… (all of the seat's roots in one cut). By AI agents, Wed Nov 11 2026. No macro, syntax, notation, axiom, sorry.
-/
import Derived.Test.YtihbelkchcedpaaChecked
import GoSem.Claim
import GoSem.ClaimJoined
import GoSem.ClaimMapViews
import Derived.JoinedTies
import Derived.KernelRfl
namespace Go.Proofs.Ytihbelkchcedpaa
/- THE CELL 'sum', in the pinned program and in every row, IS THE sha256 OF THE DUMP (.gsa) THAT YtihbelkchcedpaaProg.lean LOADS. Nothing in Lean hashes anything: it is a label: what it is worth is what the hold of that sum in a sandbox is worth. -/
noncomputable def Try.pinned : Pinned := { name := "ytihbelkchcedpaa", sum := "3ecc76c8d107a704c0d050d3c8c0d81d1c660ba4314e9fdf3a95a1a82a5d984c", checked := Try.checked }
namespace Rows
def none {H : Type} : Left H := { results := [], args := [] }

/-- 'laws.FnExactConvergentOf': WHATEVER THE INPUT: true; the input reads as it did. -/
def fnExactConvergentOfSpec : ChangeSpec := { name := "fnExactConvergentOf", fn := fun _ => fun
  | [d] => { results := [.lit (.bool true)], args := [d] }
  | _ => none }
def fnExactConvergentOfRow : OpenClaim := { program := "ytihbelkchcedpaa", sum := "3ecc76c8d107a704c0d050d3c8c0d81d1c660ba4314e9fdf3a95a1a82a5d984c", func := "loop.example/g02079/laws.FnExactConvergentOf", spec := "fnExactConvergentOf", apart := false }
def FnExactConvergentOfSaid : Prop := fnExactConvergentOfRow.holds Try.pinned (OpenSpec.ofChange fnExactConvergentOfSpec)

/-- ITS FALSE NEIGHBOUR: 'it returns false'. Refute it at one input. -/
def fnExactConvergentOfWrong : ChangeSpec := { name := "fnExactConvergentOf", fn := fun _ => fun
  | [d] => { results := [.lit (.bool false)], args := [d] }
  | _ => none }
def FnExactConvergentOfWrongFalsely : Prop := fnExactConvergentOfRow.holds Try.pinned (OpenSpec.ofChange fnExactConvergentOfWrong)

/-- 'laws.FnExactQuotientsOf': WHATEVER THE INPUT: true; the input reads as it did. -/
def fnExactQuotientsOfSpec : ChangeSpec := { name := "fnExactQuotientsOf", fn := fun _ => fun
  | [d1, d2] => { results := [.lit (.bool true)], args := [d1, d2] }
  | _ => none }
def fnExactQuotientsOfRow : OpenClaim := { program := "ytihbelkchcedpaa", sum := "3ecc76c8d107a704c0d050d3c8c0d81d1c660ba4314e9fdf3a95a1a82a5d984c", func := "loop.example/g02079/laws.FnExactQuotientsOf", spec := "fnExactQuotientsOf", apart := false }
def FnExactQuotientsOfSaid : Prop := fnExactQuotientsOfRow.holds Try.pinned (OpenSpec.ofChange fnExactQuotientsOfSpec)

/-- ITS FALSE NEIGHBOUR: 'it returns false'. Refute it at one input. -/
def fnExactQuotientsOfWrong : ChangeSpec := { name := "fnExactQuotientsOf", fn := fun _ => fun
  | [d1, d2] => { results := [.lit (.bool false)], args := [d1, d2] }
  | _ => none }
def FnExactQuotientsOfWrongFalsely : Prop := fnExactQuotientsOfRow.holds Try.pinned (OpenSpec.ofChange fnExactQuotientsOfWrong)

/-- 'laws.FnExactStandardWord': WHATEVER THE INPUT: true; the input reads as it did. -/
def fnExactStandardWordSpec : ChangeSpec := { name := "fnExactStandardWord", fn := fun _ => fun
  | [d] => { results := [.lit (.bool true)], args := [d] }
  | _ => none }
def fnExactStandardWordRow : OpenClaim := { program := "ytihbelkchcedpaa", sum := "3ecc76c8d107a704c0d050d3c8c0d81d1c660ba4314e9fdf3a95a1a82a5d984c", func := "loop.example/g02079/laws.FnExactStandardWord", spec := "fnExactStandardWord", apart := false }
def FnExactStandardWordSaid : Prop := fnExactStandardWordRow.holds Try.pinned (OpenSpec.ofChange fnExactStandardWordSpec)

/-- ITS FALSE NEIGHBOUR: 'it returns false'. Refute it at one input. -/
def fnExactStandardWordWrong : ChangeSpec := { name := "fnExactStandardWord", fn := fun _ => fun
  | [d] => { results := [.lit (.bool false)], args := [d] }
  | _ => none }
def FnExactStandardWordWrongFalsely : Prop := fnExactStandardWordRow.holds Try.pinned (OpenSpec.ofChange fnExactStandardWordWrong)

/-- 'laws.FnExactCharacteristicPrefix': WHATEVER THE INPUT: true; the input reads as it did. -/
def fnExactCharacteristicPrefixSpec : ChangeSpec := { name := "fnExactCharacteristicPrefix", fn := fun _ => fun
  | [d1, d2] => { results := [.lit (.bool true)], args := [d1, d2] }
  | _ => none }
def fnExactCharacteristicPrefixRow : OpenClaim := { program := "ytihbelkchcedpaa", sum := "3ecc76c8d107a704c0d050d3c8c0d81d1c660ba4314e9fdf3a95a1a82a5d984c", func := "loop.example/g02079/laws.FnExactCharacteristicPrefix", spec := "fnExactCharacteristicPrefix", apart := false }
def FnExactCharacteristicPrefixSaid : Prop := fnExactCharacteristicPrefixRow.holds Try.pinned (OpenSpec.ofChange fnExactCharacteristicPrefixSpec)

/-- ITS FALSE NEIGHBOUR: 'it returns false'. Refute it at one input. -/
def fnExactCharacteristicPrefixWrong : ChangeSpec := { name := "fnExactCharacteristicPrefix", fn := fun _ => fun
  | [d1, d2] => { results := [.lit (.bool false)], args := [d1, d2] }
  | _ => none }
def FnExactCharacteristicPrefixWrongFalsely : Prop := fnExactCharacteristicPrefixRow.holds Try.pinned (OpenSpec.ofChange fnExactCharacteristicPrefixWrong)

/-- 'laws.FnExactCentralWord': WHATEVER THE INPUT: true; the input reads as it did. -/
def fnExactCentralWordSpec : ChangeSpec := { name := "fnExactCentralWord", fn := fun _ => fun
  | [d] => { results := [.lit (.bool true)], args := [d] }
  | _ => none }
def fnExactCentralWordRow : OpenClaim := { program := "ytihbelkchcedpaa", sum := "3ecc76c8d107a704c0d050d3c8c0d81d1c660ba4314e9fdf3a95a1a82a5d984c", func := "loop.example/g02079/laws.FnExactCentralWord", spec := "fnExactCentralWord", apart := false }
def FnExactCentralWordSaid : Prop := fnExactCentralWordRow.holds Try.pinned (OpenSpec.ofChange fnExactCentralWordSpec)

/-- ITS FALSE NEIGHBOUR: 'it returns false'. Refute it at one input. -/
def fnExactCentralWordWrong : ChangeSpec := { name := "fnExactCentralWord", fn := fun _ => fun
  | [d] => { results := [.lit (.bool false)], args := [d] }
  | _ => none }
def FnExactCentralWordWrongFalsely : Prop := fnExactCentralWordRow.holds Try.pinned (OpenSpec.ofChange fnExactCentralWordWrong)

/-- 'laws.FnExactChristoffelWord': WHATEVER THE INPUT: true; the input reads as it did. -/
def fnExactChristoffelWordSpec : ChangeSpec := { name := "fnExactChristoffelWord", fn := fun _ => fun
  | [d1, d2] => { results := [.lit (.bool true)], args := [d1, d2] }
  | _ => none }
def fnExactChristoffelWordRow : OpenClaim := { program := "ytihbelkchcedpaa", sum := "3ecc76c8d107a704c0d050d3c8c0d81d1c660ba4314e9fdf3a95a1a82a5d984c", func := "loop.example/g02079/laws.FnExactChristoffelWord", spec := "fnExactChristoffelWord", apart := false }
def FnExactChristoffelWordSaid : Prop := fnExactChristoffelWordRow.holds Try.pinned (OpenSpec.ofChange fnExactChristoffelWordSpec)

/-- ITS FALSE NEIGHBOUR: 'it returns false'. Refute it at one input. -/
def fnExactChristoffelWordWrong : ChangeSpec := { name := "fnExactChristoffelWord", fn := fun _ => fun
  | [d1, d2] => { results := [.lit (.bool false)], args := [d1, d2] }
  | _ => none }
def FnExactChristoffelWordWrongFalsely : Prop := fnExactChristoffelWordRow.holds Try.pinned (OpenSpec.ofChange fnExactChristoffelWordWrong)

/-- 'laws.FnExactChristoffelTree': WHATEVER THE INPUT: true; the input reads as it did. -/
def fnExactChristoffelTreeSpec : ChangeSpec := { name := "fnExactChristoffelTree", fn := fun _ => fun
  | [d] => { results := [.lit (.bool true)], args := [d] }
  | _ => none }
def fnExactChristoffelTreeRow : OpenClaim := { program := "ytihbelkchcedpaa", sum := "3ecc76c8d107a704c0d050d3c8c0d81d1c660ba4314e9fdf3a95a1a82a5d984c", func := "loop.example/g02079/laws.FnExactChristoffelTree", spec := "fnExactChristoffelTree", apart := false }
def FnExactChristoffelTreeSaid : Prop := fnExactChristoffelTreeRow.holds Try.pinned (OpenSpec.ofChange fnExactChristoffelTreeSpec)

/-- ITS FALSE NEIGHBOUR: 'it returns false'. Refute it at one input. -/
def fnExactChristoffelTreeWrong : ChangeSpec := { name := "fnExactChristoffelTree", fn := fun _ => fun
  | [d] => { results := [.lit (.bool false)], args := [d] }
  | _ => none }
def FnExactChristoffelTreeWrongFalsely : Prop := fnExactChristoffelTreeRow.holds Try.pinned (OpenSpec.ofChange fnExactChristoffelTreeWrong)

/-- 'laws.FnExactUpperChristoffel': WHATEVER THE INPUT: true; the input reads as it did. -/
def fnExactUpperChristoffelSpec : ChangeSpec := { name := "fnExactUpperChristoffel", fn := fun _ => fun
  | [d1, d2] => { results := [.lit (.bool true)], args := [d1, d2] }
  | _ => none }
def fnExactUpperChristoffelRow : OpenClaim := { program := "ytihbelkchcedpaa", sum := "3ecc76c8d107a704c0d050d3c8c0d81d1c660ba4314e9fdf3a95a1a82a5d984c", func := "loop.example/g02079/laws.FnExactUpperChristoffel", spec := "fnExactUpperChristoffel", apart := false }
def FnExactUpperChristoffelSaid : Prop := fnExactUpperChristoffelRow.holds Try.pinned (OpenSpec.ofChange fnExactUpperChristoffelSpec)

/-- ITS FALSE NEIGHBOUR: 'it returns false'. Refute it at one input. -/
def fnExactUpperChristoffelWrong : ChangeSpec := { name := "fnExactUpperChristoffel", fn := fun _ => fun
  | [d1, d2] => { results := [.lit (.bool false)], args := [d1, d2] }
  | _ => none }
def FnExactUpperChristoffelWrongFalsely : Prop := fnExactUpperChristoffelRow.holds Try.pinned (OpenSpec.ofChange fnExactUpperChristoffelWrong)

/-- 'laws.FnExactIsChristoffel': WHATEVER THE INPUT: true; the input reads as it did. -/
def fnExactIsChristoffelSpec : ChangeSpec := { name := "fnExactIsChristoffel", fn := fun _ => fun
  | [d] => { results := [.lit (.bool true)], args := [d] }
  | _ => none }
def fnExactIsChristoffelRow : OpenClaim := { program := "ytihbelkchcedpaa", sum := "3ecc76c8d107a704c0d050d3c8c0d81d1c660ba4314e9fdf3a95a1a82a5d984c", func := "loop.example/g02079/laws.FnExactIsChristoffel", spec := "fnExactIsChristoffel", apart := false }
def FnExactIsChristoffelSaid : Prop := fnExactIsChristoffelRow.holds Try.pinned (OpenSpec.ofChange fnExactIsChristoffelSpec)

/-- ITS FALSE NEIGHBOUR: 'it returns false'. Refute it at one input. -/
def fnExactIsChristoffelWrong : ChangeSpec := { name := "fnExactIsChristoffel", fn := fun _ => fun
  | [d] => { results := [.lit (.bool false)], args := [d] }
  | _ => none }
def FnExactIsChristoffelWrongFalsely : Prop := fnExactIsChristoffelRow.holds Try.pinned (OpenSpec.ofChange fnExactIsChristoffelWrong)

/-- 'laws.FnExactChristoffelSplit': WHATEVER THE INPUT: true; the input reads as it did. -/
def fnExactChristoffelSplitSpec : ChangeSpec := { name := "fnExactChristoffelSplit", fn := fun _ => fun
  | [d1, d2] => { results := [.lit (.bool true)], args := [d1, d2] }
  | _ => none }
def fnExactChristoffelSplitRow : OpenClaim := { program := "ytihbelkchcedpaa", sum := "3ecc76c8d107a704c0d050d3c8c0d81d1c660ba4314e9fdf3a95a1a82a5d984c", func := "loop.example/g02079/laws.FnExactChristoffelSplit", spec := "fnExactChristoffelSplit", apart := false }
def FnExactChristoffelSplitSaid : Prop := fnExactChristoffelSplitRow.holds Try.pinned (OpenSpec.ofChange fnExactChristoffelSplitSpec)

/-- ITS FALSE NEIGHBOUR: 'it returns false'. Refute it at one input. -/
def fnExactChristoffelSplitWrong : ChangeSpec := { name := "fnExactChristoffelSplit", fn := fun _ => fun
  | [d1, d2] => { results := [.lit (.bool false)], args := [d1, d2] }
  | _ => none }
def FnExactChristoffelSplitWrongFalsely : Prop := fnExactChristoffelSplitRow.holds Try.pinned (OpenSpec.ofChange fnExactChristoffelSplitWrong)

/-- 'laws.FnSturmian': WHATEVER THE INPUT: true; the input reads as it did. -/
def fnSturmianSpec : ChangeSpec := { name := "fnSturmian", fn := fun _ => fun
  | [d] => { results := [.lit (.bool true)], args := [d] }
  | _ => none }
def fnSturmianRow : OpenClaim := { program := "ytihbelkchcedpaa", sum := "3ecc76c8d107a704c0d050d3c8c0d81d1c660ba4314e9fdf3a95a1a82a5d984c", func := "loop.example/g02079/laws.FnSturmian", spec := "fnSturmian", apart := false }
def FnSturmianSaid : Prop := fnSturmianRow.holds Try.pinned (OpenSpec.ofChange fnSturmianSpec)

/-- ITS FALSE NEIGHBOUR: 'it returns false'. Refute it at one input. -/
def fnSturmianWrong : ChangeSpec := { name := "fnSturmian", fn := fun _ => fun
  | [d] => { results := [.lit (.bool false)], args := [d] }
  | _ => none }
def FnSturmianWrongFalsely : Prop := fnSturmianRow.holds Try.pinned (OpenSpec.ofChange fnSturmianWrong)

/-- 'laws.FnChristoffel': WHATEVER THE INPUT: true; the input reads as it did. -/
def fnChristoffelSpec : ChangeSpec := { name := "fnChristoffel", fn := fun _ => fun
  | [d] => { results := [.lit (.bool true)], args := [d] }
  | _ => none }
def fnChristoffelRow : OpenClaim := { program := "ytihbelkchcedpaa", sum := "3ecc76c8d107a704c0d050d3c8c0d81d1c660ba4314e9fdf3a95a1a82a5d984c", func := "loop.example/g02079/laws.FnChristoffel", spec := "fnChristoffel", apart := false }
def FnChristoffelSaid : Prop := fnChristoffelRow.holds Try.pinned (OpenSpec.ofChange fnChristoffelSpec)

/-- ITS FALSE NEIGHBOUR: 'it returns false'. Refute it at one input. -/
def fnChristoffelWrong : ChangeSpec := { name := "fnChristoffel", fn := fun _ => fun
  | [d] => { results := [.lit (.bool false)], args := [d] }
  | _ => none }
def FnChristoffelWrongFalsely : Prop := fnChristoffelRow.holds Try.pinned (OpenSpec.ofChange fnChristoffelWrong)

/- THE SECOND FORM. 'bulk': how many values and letters a reading holds, each counted each time it is reached (what is shared counts as often as it is met; a slice's spare places count too). A statement '..UptoSaid' is the law's where the arguments, and the package variables that the reading takes, are together of bulk at most 1048576: NARROWER than '..Said'. Prove '..Said' where nothing that the law and all that it calls make is longer than what came in: it says more and counts as full. Else prove '..UptoSaid'. A law counts once. -/
mutual
def uptoBulk {H : Type} : DataW H → Nat
  | .lit (.string bytes) => bytes.length + 1
  | .lit _ => 1
  | .nil => 1
  | .ptr d => uptoBulk d + 1
  | .slice elems spare => uptoBulkAll elems + uptoBulkAll spare + 1
  | .agg parts => uptoBulkAll parts + 1
  | .iface _ d => uptoBulk d + 1
  | .map entries => uptoBulkEntries entries + 1
  | .held _ => 1
def uptoBulkAll {H : Type} : List (DataW H) → Nat
  | [] => 0
  | d :: r => uptoBulk d + uptoBulkAll r
def uptoBulkEntries {H : Type} : List (Lit × DataW H) → Nat
  | [] => 0
  | x :: r => uptoBulkEntry x + uptoBulkEntries r
def uptoBulkEntry {H : Type} : Lit × DataW H → Nat
  | (.string bytes, d) => bytes.length + uptoBulk d + 1
  | (_, d) => uptoBulk d + 1
 end
def uptoSmall : (H : Type) → List (DataW H) → Bool := fun _ ds => decide (uptoBulkAll ds ≤ 1048576)
def OpenSpec.upto (s : _root_.Go.ChangeSpec) : _root_.Go.OpenSpec := { _root_.Go.OpenSpec.ofChange s with cond := some uptoSmall }

/-- 'laws.FnExactConvergentOf', WHERE WHAT IT READS IS OF BULK AT MOST 1048576: true; the input reads as it did. -/
def fnExactConvergentOfUptoRow : OpenClaim := { program := "ytihbelkchcedpaa", sum := "3ecc76c8d107a704c0d050d3c8c0d81d1c660ba4314e9fdf3a95a1a82a5d984c", func := "loop.example/g02079/laws.FnExactConvergentOf", spec := "fnExactConvergentOf", apart := false, narrowed := true }
def FnExactConvergentOfUptoSaid : Prop := fnExactConvergentOfUptoRow.holds Try.pinned (OpenSpec.upto fnExactConvergentOfSpec)

/-- 'laws.FnExactQuotientsOf', WHERE WHAT IT READS IS OF BULK AT MOST 1048576: true; the input reads as it did. -/
def fnExactQuotientsOfUptoRow : OpenClaim := { program := "ytihbelkchcedpaa", sum := "3ecc76c8d107a704c0d050d3c8c0d81d1c660ba4314e9fdf3a95a1a82a5d984c", func := "loop.example/g02079/laws.FnExactQuotientsOf", spec := "fnExactQuotientsOf", apart := false, narrowed := true }
def FnExactQuotientsOfUptoSaid : Prop := fnExactQuotientsOfUptoRow.holds Try.pinned (OpenSpec.upto fnExactQuotientsOfSpec)

/-- 'laws.FnExactStandardWord', WHERE WHAT IT READS IS OF BULK AT MOST 1048576: true; the input reads as it did. -/
def fnExactStandardWordUptoRow : OpenClaim := { program := "ytihbelkchcedpaa", sum := "3ecc76c8d107a704c0d050d3c8c0d81d1c660ba4314e9fdf3a95a1a82a5d984c", func := "loop.example/g02079/laws.FnExactStandardWord", spec := "fnExactStandardWord", apart := false, narrowed := true }
def FnExactStandardWordUptoSaid : Prop := fnExactStandardWordUptoRow.holds Try.pinned (OpenSpec.upto fnExactStandardWordSpec)

/-- 'laws.FnExactCharacteristicPrefix', WHERE WHAT IT READS IS OF BULK AT MOST 1048576: true; the input reads as it did. -/
def fnExactCharacteristicPrefixUptoRow : OpenClaim := { program := "ytihbelkchcedpaa", sum := "3ecc76c8d107a704c0d050d3c8c0d81d1c660ba4314e9fdf3a95a1a82a5d984c", func := "loop.example/g02079/laws.FnExactCharacteristicPrefix", spec := "fnExactCharacteristicPrefix", apart := false, narrowed := true }
def FnExactCharacteristicPrefixUptoSaid : Prop := fnExactCharacteristicPrefixUptoRow.holds Try.pinned (OpenSpec.upto fnExactCharacteristicPrefixSpec)

/-- 'laws.FnExactCentralWord', WHERE WHAT IT READS IS OF BULK AT MOST 1048576: true; the input reads as it did. -/
def fnExactCentralWordUptoRow : OpenClaim := { program := "ytihbelkchcedpaa", sum := "3ecc76c8d107a704c0d050d3c8c0d81d1c660ba4314e9fdf3a95a1a82a5d984c", func := "loop.example/g02079/laws.FnExactCentralWord", spec := "fnExactCentralWord", apart := false, narrowed := true }
def FnExactCentralWordUptoSaid : Prop := fnExactCentralWordUptoRow.holds Try.pinned (OpenSpec.upto fnExactCentralWordSpec)

/-- 'laws.FnExactChristoffelWord', WHERE WHAT IT READS IS OF BULK AT MOST 1048576: true; the input reads as it did. -/
def fnExactChristoffelWordUptoRow : OpenClaim := { program := "ytihbelkchcedpaa", sum := "3ecc76c8d107a704c0d050d3c8c0d81d1c660ba4314e9fdf3a95a1a82a5d984c", func := "loop.example/g02079/laws.FnExactChristoffelWord", spec := "fnExactChristoffelWord", apart := false, narrowed := true }
def FnExactChristoffelWordUptoSaid : Prop := fnExactChristoffelWordUptoRow.holds Try.pinned (OpenSpec.upto fnExactChristoffelWordSpec)

/-- 'laws.FnExactChristoffelTree', WHERE WHAT IT READS IS OF BULK AT MOST 1048576: true; the input reads as it did. -/
def fnExactChristoffelTreeUptoRow : OpenClaim := { program := "ytihbelkchcedpaa", sum := "3ecc76c8d107a704c0d050d3c8c0d81d1c660ba4314e9fdf3a95a1a82a5d984c", func := "loop.example/g02079/laws.FnExactChristoffelTree", spec := "fnExactChristoffelTree", apart := false, narrowed := true }
def FnExactChristoffelTreeUptoSaid : Prop := fnExactChristoffelTreeUptoRow.holds Try.pinned (OpenSpec.upto fnExactChristoffelTreeSpec)

/-- 'laws.FnExactUpperChristoffel', WHERE WHAT IT READS IS OF BULK AT MOST 1048576: true; the input reads as it did. -/
def fnExactUpperChristoffelUptoRow : OpenClaim := { program := "ytihbelkchcedpaa", sum := "3ecc76c8d107a704c0d050d3c8c0d81d1c660ba4314e9fdf3a95a1a82a5d984c", func := "loop.example/g02079/laws.FnExactUpperChristoffel", spec := "fnExactUpperChristoffel", apart := false, narrowed := true }
def FnExactUpperChristoffelUptoSaid : Prop := fnExactUpperChristoffelUptoRow.holds Try.pinned (OpenSpec.upto fnExactUpperChristoffelSpec)

/-- 'laws.FnExactIsChristoffel', WHERE WHAT IT READS IS OF BULK AT MOST 1048576: true; the input reads as it did. -/
def fnExactIsChristoffelUptoRow : OpenClaim := { program := "ytihbelkchcedpaa", sum := "3ecc76c8d107a704c0d050d3c8c0d81d1c660ba4314e9fdf3a95a1a82a5d984c", func := "loop.example/g02079/laws.FnExactIsChristoffel", spec := "fnExactIsChristoffel", apart := false, narrowed := true }
def FnExactIsChristoffelUptoSaid : Prop := fnExactIsChristoffelUptoRow.holds Try.pinned (OpenSpec.upto fnExactIsChristoffelSpec)

/-- 'laws.FnExactChristoffelSplit', WHERE WHAT IT READS IS OF BULK AT MOST 1048576: true; the input reads as it did. -/
def fnExactChristoffelSplitUptoRow : OpenClaim := { program := "ytihbelkchcedpaa", sum := "3ecc76c8d107a704c0d050d3c8c0d81d1c660ba4314e9fdf3a95a1a82a5d984c", func := "loop.example/g02079/laws.FnExactChristoffelSplit", spec := "fnExactChristoffelSplit", apart := false, narrowed := true }
def FnExactChristoffelSplitUptoSaid : Prop := fnExactChristoffelSplitUptoRow.holds Try.pinned (OpenSpec.upto fnExactChristoffelSplitSpec)

/-- 'laws.FnSturmian', WHERE WHAT IT READS IS OF BULK AT MOST 1048576: true; the input reads as it did. -/
def fnSturmianUptoRow : OpenClaim := { program := "ytihbelkchcedpaa", sum := "3ecc76c8d107a704c0d050d3c8c0d81d1c660ba4314e9fdf3a95a1a82a5d984c", func := "loop.example/g02079/laws.FnSturmian", spec := "fnSturmian", apart := false, narrowed := true }
def FnSturmianUptoSaid : Prop := fnSturmianUptoRow.holds Try.pinned (OpenSpec.upto fnSturmianSpec)

/-- 'laws.FnChristoffel', WHERE WHAT IT READS IS OF BULK AT MOST 1048576: true; the input reads as it did. -/
def fnChristoffelUptoRow : OpenClaim := { program := "ytihbelkchcedpaa", sum := "3ecc76c8d107a704c0d050d3c8c0d81d1c660ba4314e9fdf3a95a1a82a5d984c", func := "loop.example/g02079/laws.FnChristoffel", spec := "fnChristoffel", apart := false, narrowed := true }
def FnChristoffelUptoSaid : Prop := fnChristoffelUptoRow.holds Try.pinned (OpenSpec.upto fnChristoffelSpec)

end Rows
end Go.Proofs.Ytihbelkchcedpaa
