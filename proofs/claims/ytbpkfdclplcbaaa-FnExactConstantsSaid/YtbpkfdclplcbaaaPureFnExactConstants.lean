/- The program's Constants are the reference's. It holds for all inputs that the statement lets in. -/
import Derived.Test.YtbpkfdclplcbaaaPr10
namespace Go.Proofs.Ytbpkfdclplcbaaa.Pure
open Go.RowKit Go.Proofs.Ytbpkfdclplcbaaa.Pr Go.Proofs.YtbpkfdclplcbaaaW.PrintWords Go.Proofs.YtbpkfdclplcbaaaW.PrintLast
set_option linter.unusedVariables false
set_option linter.unusedSimpArgs false



theorem FnExactConstants : laws_FnExactConstants.Pure := rfl

end Go.Proofs.Ytbpkfdclplcbaaa.Pure
