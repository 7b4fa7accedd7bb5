/- Words that the proofs of this claim name, cut by this session's wip/tools/prune.py out of the words that print.sh laid: what is named stays word for word, the rest is left out. No condition. -/
import Derived.Test.YtbpkfdclplcbaaaWInv
import Derived.Test.YtbpkfdclplcbaaaWFootNe
namespace Go.Proofs.YtbpkfdclplcbaaaW.PrintWords
open Go.RowKit
end Go.Proofs.YtbpkfdclplcbaaaW.PrintWords
namespace Go.Proofs.YtbpkfdclplcbaaaW.PrintLast
section
variable {ops : Array Oper} {a : Act} {o og : Oper} {g : Nat} {t : Tmp} {u : Bool}
end
end Go.Proofs.YtbpkfdclplcbaaaW.PrintLast
