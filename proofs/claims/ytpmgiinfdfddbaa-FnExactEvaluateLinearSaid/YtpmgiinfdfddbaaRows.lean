/-
  No cell of these rows narrows 'for every input' (looked for: loops, veiled, ifaces, maps, wideKeys, modest, calm, conditions, laid).
  DERIVED. THE GIVEN ROWS OF THIS SEAT. 12 by the template 'for every input the law returns true; each argument reads behind the call as it read before'; 0 by the template 'total and deterministic' (their statements: YtpmgiinfdfddbaaTotals.lean).
  GIVEN WITH THE SEED: the statements are not yours to turn. If you find one false, say at which input.
  Laid BY PROGRAM, IN A SANDBOX (cutbox-rows.mjs): the forced cells as the released guide's own fill.sh prints them over the translation 2b1cd49312b40fd4… (all of the seat's roots in one cut). By AI agents, Wed Nov 11 2026. No macro, syntax, notation, axiom, sorry.
-/
import Derived.Test.YtpmgiinfdfddbaaChecked
import GoSem.Claim
import GoSem.ClaimJoined
import GoSem.ClaimMapViews
import Derived.JoinedTies
import Derived.KernelRfl
namespace Go.Proofs.Ytpmgiinfdfddbaa
/- THE CELL 'sum', in the pinned program and in every row, IS THE sha256 OF THE DUMP (.gsa) THAT YtpmgiinfdfddbaaProg.lean LOADS. Nothing in Lean hashes anything: it is a label: what it is worth is what the hold of that sum in a sandbox is worth. -/
noncomputable def Try.pinned : Pinned := { name := "ytpmgiinfdfddbaa", sum := "2b1cd49312b40fd41c8c3f3e4c65a88ba123aea3a3a5768294b7b09af9e03db5", checked := Try.checked }
namespace Rows
def none {H : Type} : Left H := { results := [], args := [] }

/-- 'laws.FnExactIsDoubled': WHATEVER THE INPUT: true; the input reads as it did. -/
def fnExactIsDoubledSpec : ChangeSpec := { name := "fnExactIsDoubled", fn := fun _ => fun
  | [d] => { results := [.lit (.bool true)], args := [d] }
  | _ => none }
def fnExactIsDoubledRow : OpenClaim := { program := "ytpmgiinfdfddbaa", sum := "2b1cd49312b40fd41c8c3f3e4c65a88ba123aea3a3a5768294b7b09af9e03db5", func := "loop.example/g02079/laws.FnExactIsDoubled", spec := "fnExactIsDoubled", apart := false }
def FnExactIsDoubledSaid : Prop := fnExactIsDoubledRow.holds Try.pinned (OpenSpec.ofChange fnExactIsDoubledSpec)

/-- ITS FALSE NEIGHBOUR: 'it returns false'. Refute it at one input. -/
def fnExactIsDoubledWrong : ChangeSpec := { name := "fnExactIsDoubled", fn := fun _ => fun
  | [d] => { results := [.lit (.bool false)], args := [d] }
  | _ => none }
def FnExactIsDoubledWrongFalsely : Prop := fnExactIsDoubledRow.holds Try.pinned (OpenSpec.ofChange fnExactIsDoubledWrong)

/-- 'laws.FnExactMatchLength': WHATEVER THE INPUT: true; the input reads as it did. -/
def fnExactMatchLengthSpec : ChangeSpec := { name := "fnExactMatchLength", fn := fun _ => fun
  | [d1, d2] => { results := [.lit (.bool true)], args := [d1, d2] }
  | _ => none }
def fnExactMatchLengthRow : OpenClaim := { program := "ytpmgiinfdfddbaa", sum := "2b1cd49312b40fd41c8c3f3e4c65a88ba123aea3a3a5768294b7b09af9e03db5", func := "loop.example/g02079/laws.FnExactMatchLength", spec := "fnExactMatchLength", apart := false }
def FnExactMatchLengthSaid : Prop := fnExactMatchLengthRow.holds Try.pinned (OpenSpec.ofChange fnExactMatchLengthSpec)

/-- ITS FALSE NEIGHBOUR: 'it returns false'. Refute it at one input. -/
def fnExactMatchLengthWrong : ChangeSpec := { name := "fnExactMatchLength", fn := fun _ => fun
  | [d1, d2] => { results := [.lit (.bool false)], args := [d1, d2] }
  | _ => none }
def FnExactMatchLengthWrongFalsely : Prop := fnExactMatchLengthRow.holds Try.pinned (OpenSpec.ofChange fnExactMatchLengthWrong)

/-- 'laws.FnExactMatchAt': WHATEVER THE INPUT: true; the input reads as it did. -/
def fnExactMatchAtSpec : ChangeSpec := { name := "fnExactMatchAt", fn := fun _ => fun
  | [d1, d2, d3, d4] => { results := [.lit (.bool true)], args := [d1, d2, d3, d4] }
  | _ => none }
def fnExactMatchAtRow : OpenClaim := { program := "ytpmgiinfdfddbaa", sum := "2b1cd49312b40fd41c8c3f3e4c65a88ba123aea3a3a5768294b7b09af9e03db5", func := "loop.example/g02079/laws.FnExactMatchAt", spec := "fnExactMatchAt", apart := false }
def FnExactMatchAtSaid : Prop := fnExactMatchAtRow.holds Try.pinned (OpenSpec.ofChange fnExactMatchAtSpec)

/-- ITS FALSE NEIGHBOUR: 'it returns false'. Refute it at one input. -/
def fnExactMatchAtWrong : ChangeSpec := { name := "fnExactMatchAt", fn := fun _ => fun
  | [d1, d2, d3, d4] => { results := [.lit (.bool false)], args := [d1, d2, d3, d4] }
  | _ => none }
def FnExactMatchAtWrongFalsely : Prop := fnExactMatchAtRow.holds Try.pinned (OpenSpec.ofChange fnExactMatchAtWrong)

/-- 'laws.FnExactAvoidsPattern': WHATEVER THE INPUT: true; the input reads as it did. -/
def fnExactAvoidsPatternSpec : ChangeSpec := { name := "fnExactAvoidsPattern", fn := fun _ => fun
  | [d1, d2] => { results := [.lit (.bool true)], args := [d1, d2] }
  | _ => none }
def fnExactAvoidsPatternRow : OpenClaim := { program := "ytpmgiinfdfddbaa", sum := "2b1cd49312b40fd41c8c3f3e4c65a88ba123aea3a3a5768294b7b09af9e03db5", func := "loop.example/g02079/laws.FnExactAvoidsPattern", spec := "fnExactAvoidsPattern", recurses := true, apart := false }
def FnExactAvoidsPatternSaid : Prop := fnExactAvoidsPatternRow.holds Try.pinned (OpenSpec.ofChange fnExactAvoidsPatternSpec)

/-- ITS FALSE NEIGHBOUR: 'it returns false'. Refute it at one input. -/
def fnExactAvoidsPatternWrong : ChangeSpec := { name := "fnExactAvoidsPattern", fn := fun _ => fun
  | [d1, d2] => { results := [.lit (.bool false)], args := [d1, d2] }
  | _ => none }
def FnExactAvoidsPatternWrongFalsely : Prop := fnExactAvoidsPatternRow.holds Try.pinned (OpenSpec.ofChange fnExactAvoidsPatternWrong)

/-- 'laws.FnExactFindPattern': WHATEVER THE INPUT: true; the input reads as it did. -/
def fnExactFindPatternSpec : ChangeSpec := { name := "fnExactFindPattern", fn := fun _ => fun
  | [d1, d2] => { results := [.lit (.bool true)], args := [d1, d2] }
  | _ => none }
def fnExactFindPatternRow : OpenClaim := { program := "ytpmgiinfdfddbaa", sum := "2b1cd49312b40fd41c8c3f3e4c65a88ba123aea3a3a5768294b7b09af9e03db5", func := "loop.example/g02079/laws.FnExactFindPattern", spec := "fnExactFindPattern", recurses := true, apart := false }
def FnExactFindPatternSaid : Prop := fnExactFindPatternRow.holds Try.pinned (OpenSpec.ofChange fnExactFindPatternSpec)

/-- ITS FALSE NEIGHBOUR: 'it returns false'. Refute it at one input. -/
def fnExactFindPatternWrong : ChangeSpec := { name := "fnExactFindPattern", fn := fun _ => fun
  | [d1, d2] => { results := [.lit (.bool false)], args := [d1, d2] }
  | _ => none }
def FnExactFindPatternWrongFalsely : Prop := fnExactFindPatternRow.holds Try.pinned (OpenSpec.ofChange fnExactFindPatternWrong)

/-- 'laws.FnExactIsLinear': WHATEVER THE INPUT: true; the input reads as it did. -/
def fnExactIsLinearSpec : ChangeSpec := { name := "fnExactIsLinear", fn := fun _ => fun
  | [d] => { results := [.lit (.bool true)], args := [d] }
  | _ => none }
def fnExactIsLinearRow : OpenClaim := { program := "ytpmgiinfdfddbaa", sum := "2b1cd49312b40fd41c8c3f3e4c65a88ba123aea3a3a5768294b7b09af9e03db5", func := "loop.example/g02079/laws.FnExactIsLinear", spec := "fnExactIsLinear", apart := false }
def FnExactIsLinearSaid : Prop := fnExactIsLinearRow.holds Try.pinned (OpenSpec.ofChange fnExactIsLinearSpec)

/-- ITS FALSE NEIGHBOUR: 'it returns false'. Refute it at one input. -/
def fnExactIsLinearWrong : ChangeSpec := { name := "fnExactIsLinear", fn := fun _ => fun
  | [d] => { results := [.lit (.bool false)], args := [d] }
  | _ => none }
def FnExactIsLinearWrongFalsely : Prop := fnExactIsLinearRow.holds Try.pinned (OpenSpec.ofChange fnExactIsLinearWrong)

/-- 'laws.FnExactCountTerms': WHATEVER THE INPUT: true; the input reads as it did. -/
def fnExactCountTermsSpec : ChangeSpec := { name := "fnExactCountTerms", fn := fun _ => fun
  | [d1, d2, d3] => { results := [.lit (.bool true)], args := [d1, d2, d3] }
  | _ => none }
def fnExactCountTermsRow : OpenClaim := { program := "ytpmgiinfdfddbaa", sum := "2b1cd49312b40fd41c8c3f3e4c65a88ba123aea3a3a5768294b7b09af9e03db5", func := "loop.example/g02079/laws.FnExactCountTerms", spec := "fnExactCountTerms", apart := false }
def FnExactCountTermsSaid : Prop := fnExactCountTermsRow.holds Try.pinned (OpenSpec.ofChange fnExactCountTermsSpec)

/-- ITS FALSE NEIGHBOUR: 'it returns false'. Refute it at one input. -/
def fnExactCountTermsWrong : ChangeSpec := { name := "fnExactCountTerms", fn := fun _ => fun
  | [d1, d2, d3] => { results := [.lit (.bool false)], args := [d1, d2, d3] }
  | _ => none }
def FnExactCountTermsWrongFalsely : Prop := fnExactCountTermsRow.holds Try.pinned (OpenSpec.ofChange fnExactCountTermsWrong)

/-- 'laws.FnExactEvaluateLinear': WHATEVER THE INPUT: true; the input reads as it did. -/
def fnExactEvaluateLinearSpec : ChangeSpec := { name := "fnExactEvaluateLinear", fn := fun _ => fun
  | [d1, d2] => { results := [.lit (.bool true)], args := [d1, d2] }
  | _ => none }
def fnExactEvaluateLinearRow : OpenClaim := { program := "ytpmgiinfdfddbaa", sum := "2b1cd49312b40fd41c8c3f3e4c65a88ba123aea3a3a5768294b7b09af9e03db5", func := "loop.example/g02079/laws.FnExactEvaluateLinear", spec := "fnExactEvaluateLinear", apart := false }
def FnExactEvaluateLinearSaid : Prop := fnExactEvaluateLinearRow.holds Try.pinned (OpenSpec.ofChange fnExactEvaluateLinearSpec)

/-- ITS FALSE NEIGHBOUR: 'it returns false'. Refute it at one input. -/
def fnExactEvaluateLinearWrong : ChangeSpec := { name := "fnExactEvaluateLinear", fn := fun _ => fun
  | [d1, d2] => { results := [.lit (.bool false)], args := [d1, d2] }
  | _ => none }
def FnExactEvaluateLinearWrongFalsely : Prop := fnExactEvaluateLinearRow.holds Try.pinned (OpenSpec.ofChange fnExactEvaluateLinearWrong)

/-- 'laws.FnExactSumForms': WHATEVER THE INPUT: true; the input reads as it did. -/
def fnExactSumFormsSpec : ChangeSpec := { name := "fnExactSumForms", fn := fun _ => fun
  | [d1, d2] => { results := [.lit (.bool true)], args := [d1, d2] }
  | _ => none }
def fnExactSumFormsRow : OpenClaim := { program := "ytpmgiinfdfddbaa", sum := "2b1cd49312b40fd41c8c3f3e4c65a88ba123aea3a3a5768294b7b09af9e03db5", func := "loop.example/g02079/laws.FnExactSumForms", spec := "fnExactSumForms", apart := false }
def FnExactSumFormsSaid : Prop := fnExactSumFormsRow.holds Try.pinned (OpenSpec.ofChange fnExactSumFormsSpec)

/-- ITS FALSE NEIGHBOUR: 'it returns false'. Refute it at one input. -/
def fnExactSumFormsWrong : ChangeSpec := { name := "fnExactSumForms", fn := fun _ => fun
  | [d1, d2] => { results := [.lit (.bool false)], args := [d1, d2] }
  | _ => none }
def FnExactSumFormsWrongFalsely : Prop := fnExactSumFormsRow.holds Try.pinned (OpenSpec.ofChange fnExactSumFormsWrong)

/-- 'laws.FnExactCountingForm': WHATEVER THE INPUT: true; the input reads as it did. -/
def fnExactCountingFormSpec : ChangeSpec := { name := "fnExactCountingForm", fn := fun _ => fun
  | [d1, d2] => { results := [.lit (.bool true)], args := [d1, d2] }
  | _ => none }
def fnExactCountingFormRow : OpenClaim := { program := "ytpmgiinfdfddbaa", sum := "2b1cd49312b40fd41c8c3f3e4c65a88ba123aea3a3a5768294b7b09af9e03db5", func := "loop.example/g02079/laws.FnExactCountingForm", spec := "fnExactCountingForm", apart := false }
def FnExactCountingFormSaid : Prop := fnExactCountingFormRow.holds Try.pinned (OpenSpec.ofChange fnExactCountingFormSpec)

/-- ITS FALSE NEIGHBOUR: 'it returns false'. Refute it at one input. -/
def fnExactCountingFormWrong : ChangeSpec := { name := "fnExactCountingForm", fn := fun _ => fun
  | [d1, d2] => { results := [.lit (.bool false)], args := [d1, d2] }
  | _ => none }
def FnExactCountingFormWrongFalsely : Prop := fnExactCountingFormRow.holds Try.pinned (OpenSpec.ofChange fnExactCountingFormWrong)

/-- 'laws.FnExactCountByForm': WHATEVER THE INPUT: true; the input reads as it did. -/
def fnExactCountByFormSpec : ChangeSpec := { name := "fnExactCountByForm", fn := fun _ => fun
  | [d1, d2, d3] => { results := [.lit (.bool true)], args := [d1, d2, d3] }
  | _ => none }
def fnExactCountByFormRow : OpenClaim := { program := "ytpmgiinfdfddbaa", sum := "2b1cd49312b40fd41c8c3f3e4c65a88ba123aea3a3a5768294b7b09af9e03db5", func := "loop.example/g02079/laws.FnExactCountByForm", spec := "fnExactCountByForm", apart := false }
def FnExactCountByFormSaid : Prop := fnExactCountByFormRow.holds Try.pinned (OpenSpec.ofChange fnExactCountByFormSpec)

/-- ITS FALSE NEIGHBOUR: 'it returns false'. Refute it at one input. -/
def fnExactCountByFormWrong : ChangeSpec := { name := "fnExactCountByForm", fn := fun _ => fun
  | [d1, d2, d3] => { results := [.lit (.bool false)], args := [d1, d2, d3] }
  | _ => none }
def FnExactCountByFormWrongFalsely : Prop := fnExactCountByFormRow.holds Try.pinned (OpenSpec.ofChange fnExactCountByFormWrong)

/-- 'laws.FnExactPrefixSum': WHATEVER THE INPUT: true; the input reads as it did. -/
def fnExactPrefixSumSpec : ChangeSpec := { name := "fnExactPrefixSum", fn := fun _ => fun
  | [d1, d2] => { results := [.lit (.bool true)], args := [d1, d2] }
  | _ => none }
def fnExactPrefixSumRow : OpenClaim := { program := "ytpmgiinfdfddbaa", sum := "2b1cd49312b40fd41c8c3f3e4c65a88ba123aea3a3a5768294b7b09af9e03db5", func := "loop.example/g02079/laws.FnExactPrefixSum", spec := "fnExactPrefixSum", apart := false }
def FnExactPrefixSumSaid : Prop := fnExactPrefixSumRow.holds Try.pinned (OpenSpec.ofChange fnExactPrefixSumSpec)

/-- ITS FALSE NEIGHBOUR: 'it returns false'. Refute it at one input. -/
def fnExactPrefixSumWrong : ChangeSpec := { name := "fnExactPrefixSum", fn := fun _ => fun
  | [d1, d2] => { results := [.lit (.bool false)], args := [d1, d2] }
  | _ => none }
def FnExactPrefixSumWrongFalsely : Prop := fnExactPrefixSumRow.holds Try.pinned (OpenSpec.ofChange fnExactPrefixSumWrong)

/- THE SECOND FORM. 'bulk': how many values and letters a reading holds, each counted each time it is reached (what is shared counts as often as it is met; a slice's spare places count too). A statement '..UptoSaid' is the law's where the arguments, and the package variables that the reading takes, are together of bulk at most 1048576: NARROWER than '..Said'. Prove '..Said' where nothing that the law and all that it calls make is longer than what came in: it says more and counts as full. Else prove '..UptoSaid'. A law counts once. -/
mutual
def uptoBulk {H : Type} : DataW H → Nat
  | .lit (.string bytes) => bytes.length + 1
  | .lit _ => 1
  | .nil => 1
  | .ptr d => uptoBulk d + 1
  | .slice elems spare => uptoBulkAll elems + uptoBulkAll spare + 1
  | .agg parts => uptoBulkAll parts + 1
  | .iface _ d => uptoBulk d + 1
  | .map entries => uptoBulkEntries entries + 1
  | .held _ => 1
def uptoBulkAll {H : Type} : List (DataW H) → Nat
  | [] => 0
  | d :: r => uptoBulk d + uptoBulkAll r
def uptoBulkEntries {H : Type} : List (Lit × DataW H) → Nat
  | [] => 0
  | x :: r => uptoBulkEntry x + uptoBulkEntries r
def uptoBulkEntry {H : Type} : Lit × DataW H → Nat
  | (.string bytes, d) => bytes.length + uptoBulk d + 1
  | (_, d) => uptoBulk d + 1
 end
def uptoSmall : (H : Type) → List (DataW H) → Bool := fun _ ds => decide (uptoBulkAll ds ≤ 1048576)
def OpenSpec.upto (s : _root_.Go.ChangeSpec) : _root_.Go.OpenSpec := { _root_.Go.OpenSpec.ofChange s with cond := some uptoSmall }

/-- 'laws.FnExactIsDoubled', WHERE WHAT IT READS IS OF BULK AT MOST 1048576: true; the input reads as it did. -/
def fnExactIsDoubledUptoRow : OpenClaim := { program := "ytpmgiinfdfddbaa", sum := "2b1cd49312b40fd41c8c3f3e4c65a88ba123aea3a3a5768294b7b09af9e03db5", func := "loop.example/g02079/laws.FnExactIsDoubled", spec := "fnExactIsDoubled", apart := false, narrowed := true }
def FnExactIsDoubledUptoSaid : Prop := fnExactIsDoubledUptoRow.holds Try.pinned (OpenSpec.upto fnExactIsDoubledSpec)

/-- 'laws.FnExactMatchLength', WHERE WHAT IT READS IS OF BULK AT MOST 1048576: true; the input reads as it did. -/
def fnExactMatchLengthUptoRow : OpenClaim := { program := "ytpmgiinfdfddbaa", sum := "2b1cd49312b40fd41c8c3f3e4c65a88ba123aea3a3a5768294b7b09af9e03db5", func := "loop.example/g02079/laws.FnExactMatchLength", spec := "fnExactMatchLength", apart := false, narrowed := true }
def FnExactMatchLengthUptoSaid : Prop := fnExactMatchLengthUptoRow.holds Try.pinned (OpenSpec.upto fnExactMatchLengthSpec)

/-- 'laws.FnExactMatchAt', WHERE WHAT IT READS IS OF BULK AT MOST 1048576: true; the input reads as it did. -/
def fnExactMatchAtUptoRow : OpenClaim := { program := "ytpmgiinfdfddbaa", sum := "2b1cd49312b40fd41c8c3f3e4c65a88ba123aea3a3a5768294b7b09af9e03db5", func := "loop.example/g02079/laws.FnExactMatchAt", spec := "fnExactMatchAt", apart := false, narrowed := true }
def FnExactMatchAtUptoSaid : Prop := fnExactMatchAtUptoRow.holds Try.pinned (OpenSpec.upto fnExactMatchAtSpec)

/-- 'laws.FnExactAvoidsPattern', WHERE WHAT IT READS IS OF BULK AT MOST 1048576: true; the input reads as it did. -/
def fnExactAvoidsPatternUptoRow : OpenClaim := { program := "ytpmgiinfdfddbaa", sum := "2b1cd49312b40fd41c8c3f3e4c65a88ba123aea3a3a5768294b7b09af9e03db5", func := "loop.example/g02079/laws.FnExactAvoidsPattern", spec := "fnExactAvoidsPattern", recurses := true, apart := false, narrowed := true }
def FnExactAvoidsPatternUptoSaid : Prop := fnExactAvoidsPatternUptoRow.holds Try.pinned (OpenSpec.upto fnExactAvoidsPatternSpec)

/-- 'laws.FnExactFindPattern', WHERE WHAT IT READS IS OF BULK AT MOST 1048576: true; the input reads as it did. -/
def fnExactFindPatternUptoRow : OpenClaim := { program := "ytpmgiinfdfddbaa", sum := "2b1cd49312b40fd41c8c3f3e4c65a88ba123aea3a3a5768294b7b09af9e03db5", func := "loop.example/g02079/laws.FnExactFindPattern", spec := "fnExactFindPattern", recurses := true, apart := false, narrowed := true }
def FnExactFindPatternUptoSaid : Prop := fnExactFindPatternUptoRow.holds Try.pinned (OpenSpec.upto fnExactFindPatternSpec)

/-- 'laws.FnExactIsLinear', WHERE WHAT IT READS IS OF BULK AT MOST 1048576: true; the input reads as it did. -/
def fnExactIsLinearUptoRow : OpenClaim := { program := "ytpmgiinfdfddbaa", sum := "2b1cd49312b40fd41c8c3f3e4c65a88ba123aea3a3a5768294b7b09af9e03db5", func := "loop.example/g02079/laws.FnExactIsLinear", spec := "fnExactIsLinear", apart := false, narrowed := true }
def FnExactIsLinearUptoSaid : Prop := fnExactIsLinearUptoRow.holds Try.pinned (OpenSpec.upto fnExactIsLinearSpec)

/-- 'laws.FnExactCountTerms', WHERE WHAT IT READS IS OF BULK AT MOST 1048576: true; the input reads as it did. -/
def fnExactCountTermsUptoRow : OpenClaim := { program := "ytpmgiinfdfddbaa", sum := "2b1cd49312b40fd41c8c3f3e4c65a88ba123aea3a3a5768294b7b09af9e03db5", func := "loop.example/g02079/laws.FnExactCountTerms", spec := "fnExactCountTerms", apart := false, narrowed := true }
def FnExactCountTermsUptoSaid : Prop := fnExactCountTermsUptoRow.holds Try.pinned (OpenSpec.upto fnExactCountTermsSpec)

/-- 'laws.FnExactEvaluateLinear', WHERE WHAT IT READS IS OF BULK AT MOST 1048576: true; the input reads as it did. -/
def fnExactEvaluateLinearUptoRow : OpenClaim := { program := "ytpmgiinfdfddbaa", sum := "2b1cd49312b40fd41c8c3f3e4c65a88ba123aea3a3a5768294b7b09af9e03db5", func := "loop.example/g02079/laws.FnExactEvaluateLinear", spec := "fnExactEvaluateLinear", apart := false, narrowed := true }
def FnExactEvaluateLinearUptoSaid : Prop := fnExactEvaluateLinearUptoRow.holds Try.pinned (OpenSpec.upto fnExactEvaluateLinearSpec)

/-- 'laws.FnExactSumForms', WHERE WHAT IT READS IS OF BULK AT MOST 1048576: true; the input reads as it did. -/
def fnExactSumFormsUptoRow : OpenClaim := { program := "ytpmgiinfdfddbaa", sum := "2b1cd49312b40fd41c8c3f3e4c65a88ba123aea3a3a5768294b7b09af9e03db5", func := "loop.example/g02079/laws.FnExactSumForms", spec := "fnExactSumForms", apart := false, narrowed := true }
def FnExactSumFormsUptoSaid : Prop := fnExactSumFormsUptoRow.holds Try.pinned (OpenSpec.upto fnExactSumFormsSpec)

/-- 'laws.FnExactCountingForm', WHERE WHAT IT READS IS OF BULK AT MOST 1048576: true; the input reads as it did. -/
def fnExactCountingFormUptoRow : OpenClaim := { program := "ytpmgiinfdfddbaa", sum := "2b1cd49312b40fd41c8c3f3e4c65a88ba123aea3a3a5768294b7b09af9e03db5", func := "loop.example/g02079/laws.FnExactCountingForm", spec := "fnExactCountingForm", apart := false, narrowed := true }
def FnExactCountingFormUptoSaid : Prop := fnExactCountingFormUptoRow.holds Try.pinned (OpenSpec.upto fnExactCountingFormSpec)

/-- 'laws.FnExactCountByForm', WHERE WHAT IT READS IS OF BULK AT MOST 1048576: true; the input reads as it did. -/
def fnExactCountByFormUptoRow : OpenClaim := { program := "ytpmgiinfdfddbaa", sum := "2b1cd49312b40fd41c8c3f3e4c65a88ba123aea3a3a5768294b7b09af9e03db5", func := "loop.example/g02079/laws.FnExactCountByForm", spec := "fnExactCountByForm", apart := false, narrowed := true }
def FnExactCountByFormUptoSaid : Prop := fnExactCountByFormUptoRow.holds Try.pinned (OpenSpec.upto fnExactCountByFormSpec)

/-- 'laws.FnExactPrefixSum', WHERE WHAT IT READS IS OF BULK AT MOST 1048576: true; the input reads as it did. -/
def fnExactPrefixSumUptoRow : OpenClaim := { program := "ytpmgiinfdfddbaa", sum := "2b1cd49312b40fd41c8c3f3e4c65a88ba123aea3a3a5768294b7b09af9e03db5", func := "loop.example/g02079/laws.FnExactPrefixSum", spec := "fnExactPrefixSum", apart := false, narrowed := true }
def FnExactPrefixSumUptoSaid : Prop := fnExactPrefixSumUptoRow.holds Try.pinned (OpenSpec.upto fnExactPrefixSumSpec)

end Rows
end Go.Proofs.Ytpmgiinfdfddbaa
