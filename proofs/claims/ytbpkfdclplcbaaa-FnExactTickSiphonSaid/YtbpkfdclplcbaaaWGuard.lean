/- Words that the proofs of this claim name, cut by this session's wip/tools/prune.py out of the words that print.sh laid: what is named stays word for word, the rest is left out. No condition. -/
import Derived.Test.YtbpkfdclplcbaaaWWords
/-! ### 58. A guarded operation whose guard is known to want it: the same goal without the guard -/
namespace Go.Proofs.YtbpkfdclplcbaaaW.PrintWords
open Go.RowKit
section
variable {P : Program} {ops : Array Oper} {rest : List Oper} {o : Oper} {a : Act} {Q : Exit → Act → World → Prop} {W : World}
end
end Go.Proofs.YtbpkfdclplcbaaaW.PrintWords
