/- Words that the proofs of this claim name, cut by this session's wip/tools/prune.py out of the words that print.sh laid: what is named stays word for word, the rest is left out. No condition. -/
import Derived.Test.YtfaiegpkmohkdaaWTab
/-! ### 57. A region of open order by ONE relation over what is listed so far: each operation is shown once, whatever came up before it -/
namespace Go.Proofs.YtfaiegpkmohkdaaW.PrintLast
/-- Number i is listed too. -/
def up (b : Nat → Bool) (i : Nat) : Nat → Bool := fun j => if j = i then true else b j
section
variable {P : Program} {ops : Array Oper} {Q : Exit → Act → World → Prop} {md : Region.Mode} {T : Bool × List (List Nat × List Nat)} {B : List Nat} {O : List Nat} {b : Nat → Bool} {i j n : Nat}
/-! The frame: what is listed has its destination filled. -/
end
end Go.Proofs.YtfaiegpkmohkdaaW.PrintLast
