/- Words that the proofs of this claim name, cut by this session's wip/tools/prune.py out of the words that print.sh laid: what is named stays word for word, the rest is left out. No condition. -/
import Derived.Test.YtfaiegpkmohkdaaWInv
import Derived.Test.YtfaiegpkmohkdaaWFootNe
namespace Go.Proofs.YtfaiegpkmohkdaaW.PrintWords
open Go.RowKit
end Go.Proofs.YtfaiegpkmohkdaaW.PrintWords
namespace Go.Proofs.YtfaiegpkmohkdaaW.PrintLast
section
variable {ops : Array Oper} {a : Act} {o og : Oper} {g : Nat} {t : Tmp} {u : Bool}
end
end Go.Proofs.YtfaiegpkmohkdaaW.PrintLast
