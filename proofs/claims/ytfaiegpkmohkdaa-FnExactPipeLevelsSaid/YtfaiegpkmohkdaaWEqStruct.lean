/- Words that the proofs of this claim name, cut by this session's wip/tools/prune.py out of the words that print.sh laid: what is named stays word for word, the rest is left out. No condition. -/
import Derived.Test.YtfaiegpkmohkdaaWWords
import Derived.Laws.StructEq
/-! ### 53. '==' of structs as_ one Bool -/
namespace Go.Proofs.YtfaiegpkmohkdaaW.PrintWords
open Go.RowKit
section
variable {P : Program} {d : Nat} {xs ys : Array Value} {f : Field} {fs : List Field} {a b : Value} {r s : Bool} {w : World}
end
end Go.Proofs.YtfaiegpkmohkdaaW.PrintWords
