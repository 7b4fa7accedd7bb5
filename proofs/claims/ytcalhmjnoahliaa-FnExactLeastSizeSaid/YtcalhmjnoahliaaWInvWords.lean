/- Words that the proofs of this claim name, cut by this session's wip/tools/prune.py out of the words that print.sh laid: what is named stays word for word, the rest is left out. No condition. -/
import Derived.Test.YtcalhmjnoahliaaWInv
import Derived.Test.YtcalhmjnoahliaaWFootNe
namespace Go.Proofs.YtcalhmjnoahliaaW.PrintWords
open Go.RowKit
end Go.Proofs.YtcalhmjnoahliaaW.PrintWords
namespace Go.Proofs.YtcalhmjnoahliaaW.PrintLast
section
variable {ops : Array Oper} {a : Act} {o og : Oper} {g : Nat} {t : Tmp} {u : Bool}
end
end Go.Proofs.YtcalhmjnoahliaaW.PrintLast
