/-
  No cell of these rows narrows 'for every input' (looked for: loops, veiled, ifaces, maps, wideKeys, modest, calm, conditions, laid).
  DERIVED. THE GIVEN ROWS OF THIS SEAT. 9 by the template 'for every input the law returns true; each argument reads behind the call as it read before'; 0 by the template 'total and deterministic' (their statements: YtdcakddfibnllaaTotals.lean).
  GIVEN WITH THE SEED: the statements are not yours to turn. If you find one false, say at which input.
  Laid BY PROGRAM, IN A SANDBOX (cutbox-rows.mjs): the forced cells as the released guide's own fill.sh prints them over the translation c75429c570e2def9… (all of the seat's roots in one cut). By AI agents, Wed Nov 11 2026. No macro, syntax, notation, axiom, sorry.
-/
import Derived.Test.YtdcakddfibnllaaChecked
import GoSem.Claim
import GoSem.ClaimJoined
import GoSem.ClaimMapViews
import Derived.JoinedTies
import Derived.KernelRfl
namespace Go.Proofs.Ytdcakddfibnllaa
/- THE CELL 'sum', in the pinned program and in every row, IS THE sha256 OF THE DUMP (.gsa) THAT YtdcakddfibnllaaProg.lean LOADS. Nothing in Lean hashes anything: it is a label: what it is worth is what the hold of that sum in a sandbox is worth. -/
noncomputable def Try.pinned : Pinned := { name := "ytdcakddfibnllaa", sum := "c75429c570e2def9a8cdf934c4c7ad159399feaceb1e2383af7f8b5929769975", checked := Try.checked }
namespace Rows
def none {H : Type} : Left H := { results := [], args := [] }

/-- 'laws.FnExactFibonacciLetter': WHATEVER THE INPUT: true; the input reads as it did. -/
def fnExactFibonacciLetterSpec : ChangeSpec := { name := "fnExactFibonacciLetter", fn := fun _ => fun
  | [d] => { results := [.lit (.bool true)], args := [d] }
  | _ => none }
def fnExactFibonacciLetterRow : OpenClaim := { program := "ytdcakddfibnllaa", sum := "c75429c570e2def9a8cdf934c4c7ad159399feaceb1e2383af7f8b5929769975", func := "loop.example/g02079/laws.FnExactFibonacciLetter", spec := "fnExactFibonacciLetter", apart := false }
def FnExactFibonacciLetterSaid : Prop := fnExactFibonacciLetterRow.holds Try.pinned (OpenSpec.ofChange fnExactFibonacciLetterSpec)

/-- ITS FALSE NEIGHBOUR: 'it returns false'. Refute it at one input. -/
def fnExactFibonacciLetterWrong : ChangeSpec := { name := "fnExactFibonacciLetter", fn := fun _ => fun
  | [d] => { results := [.lit (.bool false)], args := [d] }
  | _ => none }
def FnExactFibonacciLetterWrongFalsely : Prop := fnExactFibonacciLetterRow.holds Try.pinned (OpenSpec.ofChange fnExactFibonacciLetterWrong)

/-- 'laws.FnExactLowerWythoff': WHATEVER THE INPUT: true; the input reads as it did. -/
def fnExactLowerWythoffSpec : ChangeSpec := { name := "fnExactLowerWythoff", fn := fun _ => fun
  | [d] => { results := [.lit (.bool true)], args := [d] }
  | _ => none }
def fnExactLowerWythoffRow : OpenClaim := { program := "ytdcakddfibnllaa", sum := "c75429c570e2def9a8cdf934c4c7ad159399feaceb1e2383af7f8b5929769975", func := "loop.example/g02079/laws.FnExactLowerWythoff", spec := "fnExactLowerWythoff", unfollowed := true, recurses := true, apart := false }
def FnExactLowerWythoffSaid : Prop := fnExactLowerWythoffRow.holds Try.pinned (OpenSpec.ofChange fnExactLowerWythoffSpec)

/-- ITS FALSE NEIGHBOUR: 'it returns false'. Refute it at one input. -/
def fnExactLowerWythoffWrong : ChangeSpec := { name := "fnExactLowerWythoff", fn := fun _ => fun
  | [d] => { results := [.lit (.bool false)], args := [d] }
  | _ => none }
def FnExactLowerWythoffWrongFalsely : Prop := fnExactLowerWythoffRow.holds Try.pinned (OpenSpec.ofChange fnExactLowerWythoffWrong)

/-- 'laws.FnExactUpperWythoff': WHATEVER THE INPUT: true; the input reads as it did. -/
def fnExactUpperWythoffSpec : ChangeSpec := { name := "fnExactUpperWythoff", fn := fun _ => fun
  | [d] => { results := [.lit (.bool true)], args := [d] }
  | _ => none }
def fnExactUpperWythoffRow : OpenClaim := { program := "ytdcakddfibnllaa", sum := "c75429c570e2def9a8cdf934c4c7ad159399feaceb1e2383af7f8b5929769975", func := "loop.example/g02079/laws.FnExactUpperWythoff", spec := "fnExactUpperWythoff", unfollowed := true, recurses := true, apart := false }
def FnExactUpperWythoffSaid : Prop := fnExactUpperWythoffRow.holds Try.pinned (OpenSpec.ofChange fnExactUpperWythoffSpec)

/-- ITS FALSE NEIGHBOUR: 'it returns false'. Refute it at one input. -/
def fnExactUpperWythoffWrong : ChangeSpec := { name := "fnExactUpperWythoff", fn := fun _ => fun
  | [d] => { results := [.lit (.bool false)], args := [d] }
  | _ => none }
def FnExactUpperWythoffWrongFalsely : Prop := fnExactUpperWythoffRow.holds Try.pinned (OpenSpec.ofChange fnExactUpperWythoffWrong)

/-- 'laws.FnExactFibonacciPrefix': WHATEVER THE INPUT: true; the input reads as it did. -/
def fnExactFibonacciPrefixSpec : ChangeSpec := { name := "fnExactFibonacciPrefix", fn := fun _ => fun
  | [d] => { results := [.lit (.bool true)], args := [d] }
  | _ => none }
def fnExactFibonacciPrefixRow : OpenClaim := { program := "ytdcakddfibnllaa", sum := "c75429c570e2def9a8cdf934c4c7ad159399feaceb1e2383af7f8b5929769975", func := "loop.example/g02079/laws.FnExactFibonacciPrefix", spec := "fnExactFibonacciPrefix", unfollowed := true, recurses := true, apart := false }
def FnExactFibonacciPrefixSaid : Prop := fnExactFibonacciPrefixRow.holds Try.pinned (OpenSpec.ofChange fnExactFibonacciPrefixSpec)

/-- ITS FALSE NEIGHBOUR: 'it returns false'. Refute it at one input. -/
def fnExactFibonacciPrefixWrong : ChangeSpec := { name := "fnExactFibonacciPrefix", fn := fun _ => fun
  | [d] => { results := [.lit (.bool false)], args := [d] }
  | _ => none }
def FnExactFibonacciPrefixWrongFalsely : Prop := fnExactFibonacciPrefixRow.holds Try.pinned (OpenSpec.ofChange fnExactFibonacciPrefixWrong)

/-- 'laws.FnExactIsColdPair': WHATEVER THE INPUT: true; the input reads as it did. -/
def fnExactIsColdPairSpec : ChangeSpec := { name := "fnExactIsColdPair", fn := fun _ => fun
  | [d1, d2] => { results := [.lit (.bool true)], args := [d1, d2] }
  | _ => none }
def fnExactIsColdPairRow : OpenClaim := { program := "ytdcakddfibnllaa", sum := "c75429c570e2def9a8cdf934c4c7ad159399feaceb1e2383af7f8b5929769975", func := "loop.example/g02079/laws.FnExactIsColdPair", spec := "fnExactIsColdPair", unfollowed := true, recurses := true, apart := false }
def FnExactIsColdPairSaid : Prop := fnExactIsColdPairRow.holds Try.pinned (OpenSpec.ofChange fnExactIsColdPairSpec)

/-- ITS FALSE NEIGHBOUR: 'it returns false'. Refute it at one input. -/
def fnExactIsColdPairWrong : ChangeSpec := { name := "fnExactIsColdPair", fn := fun _ => fun
  | [d1, d2] => { results := [.lit (.bool false)], args := [d1, d2] }
  | _ => none }
def FnExactIsColdPairWrongFalsely : Prop := fnExactIsColdPairRow.holds Try.pinned (OpenSpec.ofChange fnExactIsColdPairWrong)

/-- 'laws.FnExactNextZeckendorf': WHATEVER THE INPUT: true; the input reads as it did. -/
def fnExactNextZeckendorfSpec : ChangeSpec := { name := "fnExactNextZeckendorf", fn := fun _ => fun
  | [d] => { results := [.lit (.bool true)], args := [d] }
  | _ => none }
def fnExactNextZeckendorfRow : OpenClaim := { program := "ytdcakddfibnllaa", sum := "c75429c570e2def9a8cdf934c4c7ad159399feaceb1e2383af7f8b5929769975", func := "loop.example/g02079/laws.FnExactNextZeckendorf", spec := "fnExactNextZeckendorf", apart := false }
def FnExactNextZeckendorfSaid : Prop := fnExactNextZeckendorfRow.holds Try.pinned (OpenSpec.ofChange fnExactNextZeckendorfSpec)

/-- ITS FALSE NEIGHBOUR: 'it returns false'. Refute it at one input. -/
def fnExactNextZeckendorfWrong : ChangeSpec := { name := "fnExactNextZeckendorf", fn := fun _ => fun
  | [d] => { results := [.lit (.bool false)], args := [d] }
  | _ => none }
def FnExactNextZeckendorfWrongFalsely : Prop := fnExactNextZeckendorfRow.holds Try.pinned (OpenSpec.ofChange fnExactNextZeckendorfWrong)

/-- 'laws.FnExactAddZeckendorf': WHATEVER THE INPUT: true; the input reads as it did. -/
def fnExactAddZeckendorfSpec : ChangeSpec := { name := "fnExactAddZeckendorf", fn := fun _ => fun
  | [d1, d2] => { results := [.lit (.bool true)], args := [d1, d2] }
  | _ => none }
def fnExactAddZeckendorfRow : OpenClaim := { program := "ytdcakddfibnllaa", sum := "c75429c570e2def9a8cdf934c4c7ad159399feaceb1e2383af7f8b5929769975", func := "loop.example/g02079/laws.FnExactAddZeckendorf", spec := "fnExactAddZeckendorf", apart := false }
def FnExactAddZeckendorfSaid : Prop := fnExactAddZeckendorfRow.holds Try.pinned (OpenSpec.ofChange fnExactAddZeckendorfSpec)

/-- ITS FALSE NEIGHBOUR: 'it returns false'. Refute it at one input. -/
def fnExactAddZeckendorfWrong : ChangeSpec := { name := "fnExactAddZeckendorf", fn := fun _ => fun
  | [d1, d2] => { results := [.lit (.bool false)], args := [d1, d2] }
  | _ => none }
def FnExactAddZeckendorfWrongFalsely : Prop := fnExactAddZeckendorfRow.holds Try.pinned (OpenSpec.ofChange fnExactAddZeckendorfWrong)

/-- 'laws.FnZeckendorf': WHATEVER THE INPUT: true; the input reads as it did. -/
def fnZeckendorfSpec : ChangeSpec := { name := "fnZeckendorf", fn := fun _ => fun
  | [d] => { results := [.lit (.bool true)], args := [d] }
  | _ => none }
def fnZeckendorfRow : OpenClaim := { program := "ytdcakddfibnllaa", sum := "c75429c570e2def9a8cdf934c4c7ad159399feaceb1e2383af7f8b5929769975", func := "loop.example/g02079/laws.FnZeckendorf", spec := "fnZeckendorf", apart := false }
def FnZeckendorfSaid : Prop := fnZeckendorfRow.holds Try.pinned (OpenSpec.ofChange fnZeckendorfSpec)

/-- ITS FALSE NEIGHBOUR: 'it returns false'. Refute it at one input. -/
def fnZeckendorfWrong : ChangeSpec := { name := "fnZeckendorf", fn := fun _ => fun
  | [d] => { results := [.lit (.bool false)], args := [d] }
  | _ => none }
def FnZeckendorfWrongFalsely : Prop := fnZeckendorfRow.holds Try.pinned (OpenSpec.ofChange fnZeckendorfWrong)

/-- 'laws.FnFibonacci': WHATEVER THE INPUT: true; the input reads as it did. -/
def fnFibonacciSpec : ChangeSpec := { name := "fnFibonacci", fn := fun _ => fun
  | [d] => { results := [.lit (.bool true)], args := [d] }
  | _ => none }
def fnFibonacciRow : OpenClaim := { program := "ytdcakddfibnllaa", sum := "c75429c570e2def9a8cdf934c4c7ad159399feaceb1e2383af7f8b5929769975", func := "loop.example/g02079/laws.FnFibonacci", spec := "fnFibonacci", unfollowed := true, recurses := true, apart := false }
def FnFibonacciSaid : Prop := fnFibonacciRow.holds Try.pinned (OpenSpec.ofChange fnFibonacciSpec)

/-- ITS FALSE NEIGHBOUR: 'it returns false'. Refute it at one input. -/
def fnFibonacciWrong : ChangeSpec := { name := "fnFibonacci", fn := fun _ => fun
  | [d] => { results := [.lit (.bool false)], args := [d] }
  | _ => none }
def FnFibonacciWrongFalsely : Prop := fnFibonacciRow.holds Try.pinned (OpenSpec.ofChange fnFibonacciWrong)

/- THE SECOND FORM. 'bulk': how many values and letters a reading holds, each counted each time it is reached (what is shared counts as often as it is met; a slice's spare places count too). A statement '..UptoSaid' is the law's where the arguments, and the package variables that the reading takes, are together of bulk at most 1048576: NARROWER than '..Said'. Prove '..Said' where nothing that the law and all that it calls make is longer than what came in: it says more and counts as full. Else prove '..UptoSaid'. A law counts once. -/
mutual
def uptoBulk {H : Type} : DataW H → Nat
  | .lit (.string bytes) => bytes.length + 1
  | .lit _ => 1
  | .nil => 1
  | .ptr d => uptoBulk d + 1
  | .slice elems spare => uptoBulkAll elems + uptoBulkAll spare + 1
  | .agg parts => uptoBulkAll parts + 1
  | .iface _ d => uptoBulk d + 1
  | .map entries => uptoBulkEntries entries + 1
  | .held _ => 1
def uptoBulkAll {H : Type} : List (DataW H) → Nat
  | [] => 0
  | d :: r => uptoBulk d + uptoBulkAll r
def uptoBulkEntries {H : Type} : List (Lit × DataW H) → Nat
  | [] => 0
  | x :: r => uptoBulkEntry x + uptoBulkEntries r
def uptoBulkEntry {H : Type} : Lit × DataW H → Nat
  | (.string bytes, d) => bytes.length + uptoBulk d + 1
  | (_, d) => uptoBulk d + 1
 end
def uptoSmall : (H : Type) → List (DataW H) → Bool := fun _ ds => decide (uptoBulkAll ds ≤ 1048576)
def OpenSpec.upto (s : _root_.Go.ChangeSpec) : _root_.Go.OpenSpec := { _root_.Go.OpenSpec.ofChange s with cond := some uptoSmall }

/-- 'laws.FnExactFibonacciLetter', WHERE WHAT IT READS IS OF BULK AT MOST 1048576: true; the input reads as it did. -/
def fnExactFibonacciLetterUptoRow : OpenClaim := { program := "ytdcakddfibnllaa", sum := "c75429c570e2def9a8cdf934c4c7ad159399feaceb1e2383af7f8b5929769975", func := "loop.example/g02079/laws.FnExactFibonacciLetter", spec := "fnExactFibonacciLetter", apart := false, narrowed := true }
def FnExactFibonacciLetterUptoSaid : Prop := fnExactFibonacciLetterUptoRow.holds Try.pinned (OpenSpec.upto fnExactFibonacciLetterSpec)

/-- 'laws.FnExactLowerWythoff', WHERE WHAT IT READS IS OF BULK AT MOST 1048576: true; the input reads as it did. -/
def fnExactLowerWythoffUptoRow : OpenClaim := { program := "ytdcakddfibnllaa", sum := "c75429c570e2def9a8cdf934c4c7ad159399feaceb1e2383af7f8b5929769975", func := "loop.example/g02079/laws.FnExactLowerWythoff", spec := "fnExactLowerWythoff", unfollowed := true, recurses := true, apart := false, narrowed := true }
def FnExactLowerWythoffUptoSaid : Prop := fnExactLowerWythoffUptoRow.holds Try.pinned (OpenSpec.upto fnExactLowerWythoffSpec)

/-- 'laws.FnExactUpperWythoff', WHERE WHAT IT READS IS OF BULK AT MOST 1048576: true; the input reads as it did. -/
def fnExactUpperWythoffUptoRow : OpenClaim := { program := "ytdcakddfibnllaa", sum := "c75429c570e2def9a8cdf934c4c7ad159399feaceb1e2383af7f8b5929769975", func := "loop.example/g02079/laws.FnExactUpperWythoff", spec := "fnExactUpperWythoff", unfollowed := true, recurses := true, apart := false, narrowed := true }
def FnExactUpperWythoffUptoSaid : Prop := fnExactUpperWythoffUptoRow.holds Try.pinned (OpenSpec.upto fnExactUpperWythoffSpec)

/-- 'laws.FnExactFibonacciPrefix', WHERE WHAT IT READS IS OF BULK AT MOST 1048576: true; the input reads as it did. -/
def fnExactFibonacciPrefixUptoRow : OpenClaim := { program := "ytdcakddfibnllaa", sum := "c75429c570e2def9a8cdf934c4c7ad159399feaceb1e2383af7f8b5929769975", func := "loop.example/g02079/laws.FnExactFibonacciPrefix", spec := "fnExactFibonacciPrefix", unfollowed := true, recurses := true, apart := false, narrowed := true }
def FnExactFibonacciPrefixUptoSaid : Prop := fnExactFibonacciPrefixUptoRow.holds Try.pinned (OpenSpec.upto fnExactFibonacciPrefixSpec)

/-- 'laws.FnExactIsColdPair', WHERE WHAT IT READS IS OF BULK AT MOST 1048576: true; the input reads as it did. -/
def fnExactIsColdPairUptoRow : OpenClaim := { program := "ytdcakddfibnllaa", sum := "c75429c570e2def9a8cdf934c4c7ad159399feaceb1e2383af7f8b5929769975", func := "loop.example/g02079/laws.FnExactIsColdPair", spec := "fnExactIsColdPair", unfollowed := true, recurses := true, apart := false, narrowed := true }
def FnExactIsColdPairUptoSaid : Prop := fnExactIsColdPairUptoRow.holds Try.pinned (OpenSpec.upto fnExactIsColdPairSpec)

/-- 'laws.FnExactNextZeckendorf', WHERE WHAT IT READS IS OF BULK AT MOST 1048576: true; the input reads as it did. -/
def fnExactNextZeckendorfUptoRow : OpenClaim := { program := "ytdcakddfibnllaa", sum := "c75429c570e2def9a8cdf934c4c7ad159399feaceb1e2383af7f8b5929769975", func := "loop.example/g02079/laws.FnExactNextZeckendorf", spec := "fnExactNextZeckendorf", apart := false, narrowed := true }
def FnExactNextZeckendorfUptoSaid : Prop := fnExactNextZeckendorfUptoRow.holds Try.pinned (OpenSpec.upto fnExactNextZeckendorfSpec)

/-- 'laws.FnExactAddZeckendorf', WHERE WHAT IT READS IS OF BULK AT MOST 1048576: true; the input reads as it did. -/
def fnExactAddZeckendorfUptoRow : OpenClaim := { program := "ytdcakddfibnllaa", sum := "c75429c570e2def9a8cdf934c4c7ad159399feaceb1e2383af7f8b5929769975", func := "loop.example/g02079/laws.FnExactAddZeckendorf", spec := "fnExactAddZeckendorf", apart := false, narrowed := true }
def FnExactAddZeckendorfUptoSaid : Prop := fnExactAddZeckendorfUptoRow.holds Try.pinned (OpenSpec.upto fnExactAddZeckendorfSpec)

/-- 'laws.FnZeckendorf', WHERE WHAT IT READS IS OF BULK AT MOST 1048576: true; the input reads as it did. -/
def fnZeckendorfUptoRow : OpenClaim := { program := "ytdcakddfibnllaa", sum := "c75429c570e2def9a8cdf934c4c7ad159399feaceb1e2383af7f8b5929769975", func := "loop.example/g02079/laws.FnZeckendorf", spec := "fnZeckendorf", apart := false, narrowed := true }
def FnZeckendorfUptoSaid : Prop := fnZeckendorfUptoRow.holds Try.pinned (OpenSpec.upto fnZeckendorfSpec)

/-- 'laws.FnFibonacci', WHERE WHAT IT READS IS OF BULK AT MOST 1048576: true; the input reads as it did. -/
def fnFibonacciUptoRow : OpenClaim := { program := "ytdcakddfibnllaa", sum := "c75429c570e2def9a8cdf934c4c7ad159399feaceb1e2383af7f8b5929769975", func := "loop.example/g02079/laws.FnFibonacci", spec := "fnFibonacci", unfollowed := true, recurses := true, apart := false, narrowed := true }
def FnFibonacciUptoSaid : Prop := fnFibonacciUptoRow.holds Try.pinned (OpenSpec.upto fnFibonacciSpec)

end Rows
end Go.Proofs.Ytdcakddfibnllaa
