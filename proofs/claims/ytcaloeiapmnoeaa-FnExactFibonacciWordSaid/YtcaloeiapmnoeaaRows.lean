/-
  No cell of these rows narrows 'for every input' (looked for: loops, veiled, ifaces, maps, wideKeys, modest, calm, conditions, laid).
  DERIVED. THE GIVEN ROWS OF THIS SEAT. 6 by the template 'for every input the law returns true; each argument reads behind the call as it read before'; 0 by the template 'total and deterministic' (their statements: YtcaloeiapmnoeaaTotals.lean).
  GIVEN WITH THE SEED: the statements are not yours to turn. If you find one false, say at which input.
  Laid BY PROGRAM, IN A SANDBOX (cutbox-rows.mjs): the forced cells as the released guide's own fill.sh prints them over the translation a92ee31add0ab40b… (all of the seat's roots in one cut). By AI agents, Wed Nov 11 2026. No macro, syntax, notation, axiom, sorry.
-/
import Derived.Test.YtcaloeiapmnoeaaChecked
import GoSem.Claim
import GoSem.ClaimJoined
import GoSem.ClaimMapViews
import Derived.JoinedTies
import Derived.KernelRfl
namespace Go.Proofs.Ytcaloeiapmnoeaa
/- THE CELL 'sum', in the pinned program and in every row, IS THE sha256 OF THE DUMP (.gsa) THAT YtcaloeiapmnoeaaProg.lean LOADS. Nothing in Lean hashes anything: it is a label: what it is worth is what the hold of that sum in a sandbox is worth. -/
noncomputable def Try.pinned : Pinned := { name := "ytcaloeiapmnoeaa", sum := "a92ee31add0ab40b39b33657d7ce82fb3108cbab47984bd2dacb379f18e1582f", checked := Try.checked }
namespace Rows
def none {H : Type} : Left H := { results := [], args := [] }

/-- 'laws.FnExactAreQuotients': WHATEVER THE INPUT: true; the input reads as it did. -/
def fnExactAreQuotientsSpec : ChangeSpec := { name := "fnExactAreQuotients", fn := fun _ => fun
  | [d] => { results := [.lit (.bool true)], args := [d] }
  | _ => none }
def fnExactAreQuotientsRow : OpenClaim := { program := "ytcaloeiapmnoeaa", sum := "a92ee31add0ab40b39b33657d7ce82fb3108cbab47984bd2dacb379f18e1582f", func := "loop.example/g02079/laws.FnExactAreQuotients", spec := "fnExactAreQuotients", apart := false }
def FnExactAreQuotientsSaid : Prop := fnExactAreQuotientsRow.holds Try.pinned (OpenSpec.ofChange fnExactAreQuotientsSpec)

/-- ITS FALSE NEIGHBOUR: 'it returns false'. Refute it at one input. -/
def fnExactAreQuotientsWrong : ChangeSpec := { name := "fnExactAreQuotients", fn := fun _ => fun
  | [d] => { results := [.lit (.bool false)], args := [d] }
  | _ => none }
def FnExactAreQuotientsWrongFalsely : Prop := fnExactAreQuotientsRow.holds Try.pinned (OpenSpec.ofChange fnExactAreQuotientsWrong)

/-- 'laws.FnExactCountLetters': WHATEVER THE INPUT: true; the input reads as it did. -/
def fnExactCountLettersSpec : ChangeSpec := { name := "fnExactCountLetters", fn := fun _ => fun
  | [d1, d2] => { results := [.lit (.bool true)], args := [d1, d2] }
  | _ => none }
def fnExactCountLettersRow : OpenClaim := { program := "ytcaloeiapmnoeaa", sum := "a92ee31add0ab40b39b33657d7ce82fb3108cbab47984bd2dacb379f18e1582f", func := "loop.example/g02079/laws.FnExactCountLetters", spec := "fnExactCountLetters", apart := false }
def FnExactCountLettersSaid : Prop := fnExactCountLettersRow.holds Try.pinned (OpenSpec.ofChange fnExactCountLettersSpec)

/-- ITS FALSE NEIGHBOUR: 'it returns false'. Refute it at one input. -/
def fnExactCountLettersWrong : ChangeSpec := { name := "fnExactCountLetters", fn := fun _ => fun
  | [d1, d2] => { results := [.lit (.bool false)], args := [d1, d2] }
  | _ => none }
def FnExactCountLettersWrongFalsely : Prop := fnExactCountLettersRow.holds Try.pinned (OpenSpec.ofChange fnExactCountLettersWrong)

/-- 'laws.FnExactSlopeOf': WHATEVER THE INPUT: true; the input reads as it did. -/
def fnExactSlopeOfSpec : ChangeSpec := { name := "fnExactSlopeOf", fn := fun _ => fun
  | [d] => { results := [.lit (.bool true)], args := [d] }
  | _ => none }
def fnExactSlopeOfRow : OpenClaim := { program := "ytcaloeiapmnoeaa", sum := "a92ee31add0ab40b39b33657d7ce82fb3108cbab47984bd2dacb379f18e1582f", func := "loop.example/g02079/laws.FnExactSlopeOf", spec := "fnExactSlopeOf", apart := false }
def FnExactSlopeOfSaid : Prop := fnExactSlopeOfRow.holds Try.pinned (OpenSpec.ofChange fnExactSlopeOfSpec)

/-- ITS FALSE NEIGHBOUR: 'it returns false'. Refute it at one input. -/
def fnExactSlopeOfWrong : ChangeSpec := { name := "fnExactSlopeOf", fn := fun _ => fun
  | [d] => { results := [.lit (.bool false)], args := [d] }
  | _ => none }
def FnExactSlopeOfWrongFalsely : Prop := fnExactSlopeOfRow.holds Try.pinned (OpenSpec.ofChange fnExactSlopeOfWrong)

/-- 'laws.FnExactMechanicalWord': WHATEVER THE INPUT: true; the input reads as it did. -/
def fnExactMechanicalWordSpec : ChangeSpec := { name := "fnExactMechanicalWord", fn := fun _ => fun
  | [d1, d2, d3, d4] => { results := [.lit (.bool true)], args := [d1, d2, d3, d4] }
  | _ => none }
def fnExactMechanicalWordRow : OpenClaim := { program := "ytcaloeiapmnoeaa", sum := "a92ee31add0ab40b39b33657d7ce82fb3108cbab47984bd2dacb379f18e1582f", func := "loop.example/g02079/laws.FnExactMechanicalWord", spec := "fnExactMechanicalWord", apart := false }
def FnExactMechanicalWordSaid : Prop := fnExactMechanicalWordRow.holds Try.pinned (OpenSpec.ofChange fnExactMechanicalWordSpec)

/-- ITS FALSE NEIGHBOUR: 'it returns false'. Refute it at one input. -/
def fnExactMechanicalWordWrong : ChangeSpec := { name := "fnExactMechanicalWord", fn := fun _ => fun
  | [d1, d2, d3, d4] => { results := [.lit (.bool false)], args := [d1, d2, d3, d4] }
  | _ => none }
def FnExactMechanicalWordWrongFalsely : Prop := fnExactMechanicalWordRow.holds Try.pinned (OpenSpec.ofChange fnExactMechanicalWordWrong)

/-- 'laws.FnExactIsPattern': WHATEVER THE INPUT: true; the input reads as it did. -/
def fnExactIsPatternSpec : ChangeSpec := { name := "fnExactIsPattern", fn := fun _ => fun
  | [d] => { results := [.lit (.bool true)], args := [d] }
  | _ => none }
def fnExactIsPatternRow : OpenClaim := { program := "ytcaloeiapmnoeaa", sum := "a92ee31add0ab40b39b33657d7ce82fb3108cbab47984bd2dacb379f18e1582f", func := "loop.example/g02079/laws.FnExactIsPattern", spec := "fnExactIsPattern", apart := false }
def FnExactIsPatternSaid : Prop := fnExactIsPatternRow.holds Try.pinned (OpenSpec.ofChange fnExactIsPatternSpec)

/-- ITS FALSE NEIGHBOUR: 'it returns false'. Refute it at one input. -/
def fnExactIsPatternWrong : ChangeSpec := { name := "fnExactIsPattern", fn := fun _ => fun
  | [d] => { results := [.lit (.bool false)], args := [d] }
  | _ => none }
def FnExactIsPatternWrongFalsely : Prop := fnExactIsPatternRow.holds Try.pinned (OpenSpec.ofChange fnExactIsPatternWrong)

/-- 'laws.FnExactFibonacciWord': WHATEVER THE INPUT: true; the input reads as it did. -/
def fnExactFibonacciWordSpec : ChangeSpec := { name := "fnExactFibonacciWord", fn := fun _ => fun
  | [d] => { results := [.lit (.bool true)], args := [d] }
  | _ => none }
def fnExactFibonacciWordRow : OpenClaim := { program := "ytcaloeiapmnoeaa", sum := "a92ee31add0ab40b39b33657d7ce82fb3108cbab47984bd2dacb379f18e1582f", func := "loop.example/g02079/laws.FnExactFibonacciWord", spec := "fnExactFibonacciWord", apart := false }
def FnExactFibonacciWordSaid : Prop := fnExactFibonacciWordRow.holds Try.pinned (OpenSpec.ofChange fnExactFibonacciWordSpec)

/-- ITS FALSE NEIGHBOUR: 'it returns false'. Refute it at one input. -/
def fnExactFibonacciWordWrong : ChangeSpec := { name := "fnExactFibonacciWord", fn := fun _ => fun
  | [d] => { results := [.lit (.bool false)], args := [d] }
  | _ => none }
def FnExactFibonacciWordWrongFalsely : Prop := fnExactFibonacciWordRow.holds Try.pinned (OpenSpec.ofChange fnExactFibonacciWordWrong)

/- THE SECOND FORM. 'bulk': how many values and letters a reading holds, each counted each time it is reached (what is shared counts as often as it is met; a slice's spare places count too). A statement '..UptoSaid' is the law's where the arguments, and the package variables that the reading takes, are together of bulk at most 1048576: NARROWER than '..Said'. Prove '..Said' where nothing that the law and all that it calls make is longer than what came in: it says more and counts as full. Else prove '..UptoSaid'. A law counts once. -/
mutual
def uptoBulk {H : Type} : DataW H → Nat
  | .lit (.string bytes) => bytes.length + 1
  | .lit _ => 1
  | .nil => 1
  | .ptr d => uptoBulk d + 1
  | .slice elems spare => uptoBulkAll elems + uptoBulkAll spare + 1
  | .agg parts => uptoBulkAll parts + 1
  | .iface _ d => uptoBulk d + 1
  | .map entries => uptoBulkEntries entries + 1
  | .held _ => 1
def uptoBulkAll {H : Type} : List (DataW H) → Nat
  | [] => 0
  | d :: r => uptoBulk d + uptoBulkAll r
def uptoBulkEntries {H : Type} : List (Lit × DataW H) → Nat
  | [] => 0
  | x :: r => uptoBulkEntry x + uptoBulkEntries r
def uptoBulkEntry {H : Type} : Lit × DataW H → Nat
  | (.string bytes, d) => bytes.length + uptoBulk d + 1
  | (_, d) => uptoBulk d + 1
 end
def uptoSmall : (H : Type) → List (DataW H) → Bool := fun _ ds => decide (uptoBulkAll ds ≤ 1048576)
def OpenSpec.upto (s : _root_.Go.ChangeSpec) : _root_.Go.OpenSpec := { _root_.Go.OpenSpec.ofChange s with cond := some uptoSmall }

/-- 'laws.FnExactAreQuotients', WHERE WHAT IT READS IS OF BULK AT MOST 1048576: true; the input reads as it did. -/
def fnExactAreQuotientsUptoRow : OpenClaim := { program := "ytcaloeiapmnoeaa", sum := "a92ee31add0ab40b39b33657d7ce82fb3108cbab47984bd2dacb379f18e1582f", func := "loop.example/g02079/laws.FnExactAreQuotients", spec := "fnExactAreQuotients", apart := false, narrowed := true }
def FnExactAreQuotientsUptoSaid : Prop := fnExactAreQuotientsUptoRow.holds Try.pinned (OpenSpec.upto fnExactAreQuotientsSpec)

/-- 'laws.FnExactCountLetters', WHERE WHAT IT READS IS OF BULK AT MOST 1048576: true; the input reads as it did. -/
def fnExactCountLettersUptoRow : OpenClaim := { program := "ytcaloeiapmnoeaa", sum := "a92ee31add0ab40b39b33657d7ce82fb3108cbab47984bd2dacb379f18e1582f", func := "loop.example/g02079/laws.FnExactCountLetters", spec := "fnExactCountLetters", apart := false, narrowed := true }
def FnExactCountLettersUptoSaid : Prop := fnExactCountLettersUptoRow.holds Try.pinned (OpenSpec.upto fnExactCountLettersSpec)

/-- 'laws.FnExactSlopeOf', WHERE WHAT IT READS IS OF BULK AT MOST 1048576: true; the input reads as it did. -/
def fnExactSlopeOfUptoRow : OpenClaim := { program := "ytcaloeiapmnoeaa", sum := "a92ee31add0ab40b39b33657d7ce82fb3108cbab47984bd2dacb379f18e1582f", func := "loop.example/g02079/laws.FnExactSlopeOf", spec := "fnExactSlopeOf", apart := false, narrowed := true }
def FnExactSlopeOfUptoSaid : Prop := fnExactSlopeOfUptoRow.holds Try.pinned (OpenSpec.upto fnExactSlopeOfSpec)

/-- 'laws.FnExactMechanicalWord', WHERE WHAT IT READS IS OF BULK AT MOST 1048576: true; the input reads as it did. -/
def fnExactMechanicalWordUptoRow : OpenClaim := { program := "ytcaloeiapmnoeaa", sum := "a92ee31add0ab40b39b33657d7ce82fb3108cbab47984bd2dacb379f18e1582f", func := "loop.example/g02079/laws.FnExactMechanicalWord", spec := "fnExactMechanicalWord", apart := false, narrowed := true }
def FnExactMechanicalWordUptoSaid : Prop := fnExactMechanicalWordUptoRow.holds Try.pinned (OpenSpec.upto fnExactMechanicalWordSpec)

/-- 'laws.FnExactIsPattern', WHERE WHAT IT READS IS OF BULK AT MOST 1048576: true; the input reads as it did. -/
def fnExactIsPatternUptoRow : OpenClaim := { program := "ytcaloeiapmnoeaa", sum := "a92ee31add0ab40b39b33657d7ce82fb3108cbab47984bd2dacb379f18e1582f", func := "loop.example/g02079/laws.FnExactIsPattern", spec := "fnExactIsPattern", apart := false, narrowed := true }
def FnExactIsPatternUptoSaid : Prop := fnExactIsPatternUptoRow.holds Try.pinned (OpenSpec.upto fnExactIsPatternSpec)

/-- 'laws.FnExactFibonacciWord', WHERE WHAT IT READS IS OF BULK AT MOST 1048576: true; the input reads as it did. -/
def fnExactFibonacciWordUptoRow : OpenClaim := { program := "ytcaloeiapmnoeaa", sum := "a92ee31add0ab40b39b33657d7ce82fb3108cbab47984bd2dacb379f18e1582f", func := "loop.example/g02079/laws.FnExactFibonacciWord", spec := "fnExactFibonacciWord", apart := false, narrowed := true }
def FnExactFibonacciWordUptoSaid : Prop := fnExactFibonacciWordUptoRow.holds Try.pinned (OpenSpec.upto fnExactFibonacciWordSpec)

end Rows
end Go.Proofs.Ytcaloeiapmnoeaa
