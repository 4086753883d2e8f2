/- For every number the program's ChristoffelTree answers what the reference's answers, and its rows lie in memory of their own: the law's run is walked whole in the P texts (both trees, the marks and the law itself), and answers true. No conditions beyond the given statement. -/
import Derived.Test.YtpbooapanfajiaaPFnExactChristoffelTreex2
set_option linter.unusedVariables false
set_option linter.unusedSimpArgs false
namespace Go.Proofs.Ytpbooapanfajiaa.Pure
open Go.RowKit Go.Proofs.Ytpbooapanfajiaa.PFnExactChristoffelTree Go.Proofs.YtpbooapanfajiaaW.PrintWords Go.Proofs.YtpbooapanfajiaaW.PrintLast

-- SAY: For every number the program's ChristoffelTree answers what the reference's answers, and its rows lie in memory of their own: the law's run is walked whole in the P texts (both trees, the marks and the law itself), and answers true. No conditions beyond the given statement.
theorem FnExactChristoffelTree : laws_FnExactChristoffelTree.Pure := fun _ _ => rfl


end Go.Proofs.Ytpbooapanfajiaa.Pure
