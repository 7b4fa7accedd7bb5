/- Words that the proofs of this claim name, cut by this session's wip/tools/prune.py out of the words that print.sh laid: what is named stays word for word, the rest is left out. No condition. -/
import Derived.Test.YtfaiegpkmohkdaaWTab
/-! ### 56. Four, five, six operations that may come up next, in any order -/
namespace Go.Proofs.YtfaiegpkmohkdaaW.PrintLast
section
variable {P : Program} {ops : Array Oper} {Q : Exit → Act → World → Prop} {md : Region.Mode} {S : World → Prop} {ds : List Nat} {T : Bool × List (List Nat × List Nat)}
end
end Go.Proofs.YtfaiegpkmohkdaaW.PrintLast
