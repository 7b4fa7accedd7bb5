/-
  No cell of these rows narrows 'for every input' (looked for: loops, veiled, ifaces, maps, wideKeys, modest, calm, conditions, laid).
  DERIVED. THE GIVEN ROWS OF THIS SEAT. 14 by the template 'for every input the law returns true; each argument reads behind the call as it read before'; 0 by the template 'total and deterministic' (their statements: YtobffdhdpbajhaaTotals.lean).
  GIVEN WITH THE SEED: the statements are not yours to turn. If you find one false, say at which input.
  Laid BY PROGRAM, IN A SANDBOX (cutbox-rows.mjs): the forced cells as the released guide's own fill.sh prints them over the translation 5ca2bcda003391a2… (all of the seat's roots in one cut). By AI agents, Wed Nov 11 2026. No macro, syntax, notation, axiom, sorry.
-/
import Derived.Test.YtobffdhdpbajhaaChecked
import GoSem.Claim
import GoSem.ClaimJoined
import GoSem.ClaimMapViews
import Derived.JoinedTies
import Derived.KernelRfl
namespace Go.Proofs.Ytobffdhdpbajhaa
/- THE CELL 'sum', in the pinned program and in every row, IS THE sha256 OF THE DUMP (.gsa) THAT YtobffdhdpbajhaaProg.lean LOADS. Nothing in Lean hashes anything: it is a label: what it is worth is what the hold of that sum in a sandbox is worth. -/
noncomputable def Try.pinned : Pinned := { name := "ytobffdhdpbajhaa", sum := "5ca2bcda003391a2e78d82ec81dffcf486f86d73f6202c024b71ede1340607be", checked := Try.checked }
namespace Rows
def none {H : Type} : Left H := { results := [], args := [] }

/-- 'laws.FnExactAreCaps': WHATEVER THE INPUT: true; the input reads as it did. -/
def fnExactAreCapsSpec : ChangeSpec := { name := "fnExactAreCaps", fn := fun _ => fun
  | [d] => { results := [.lit (.bool true)], args := [d] }
  | _ => none }
def fnExactAreCapsRow : OpenClaim := { program := "ytobffdhdpbajhaa", sum := "5ca2bcda003391a2e78d82ec81dffcf486f86d73f6202c024b71ede1340607be", func := "loop.example/g01208/laws.FnExactAreCaps", spec := "fnExactAreCaps", unfollowed := true, recurses := true, apart := false }
def FnExactAreCapsSaid : Prop := fnExactAreCapsRow.holds Try.pinned (OpenSpec.ofChange fnExactAreCapsSpec)

/-- ITS FALSE NEIGHBOUR: 'it returns false'. Refute it at one input. -/
def fnExactAreCapsWrong : ChangeSpec := { name := "fnExactAreCaps", fn := fun _ => fun
  | [d] => { results := [.lit (.bool false)], args := [d] }
  | _ => none }
def FnExactAreCapsWrongFalsely : Prop := fnExactAreCapsRow.holds Try.pinned (OpenSpec.ofChange fnExactAreCapsWrong)

/-- 'laws.FnExactRoundOf': WHATEVER THE INPUT: true; the input reads as it did. -/
def fnExactRoundOfSpec : ChangeSpec := { name := "fnExactRoundOf", fn := fun _ => fun
  | [d] => { results := [.lit (.bool true)], args := [d] }
  | _ => none }
def fnExactRoundOfRow : OpenClaim := { program := "ytobffdhdpbajhaa", sum := "5ca2bcda003391a2e78d82ec81dffcf486f86d73f6202c024b71ede1340607be", func := "loop.example/g01208/laws.FnExactRoundOf", spec := "fnExactRoundOf", unfollowed := true, recurses := true, apart := false }
def FnExactRoundOfSaid : Prop := fnExactRoundOfRow.holds Try.pinned (OpenSpec.ofChange fnExactRoundOfSpec)

/-- ITS FALSE NEIGHBOUR: 'it returns false'. Refute it at one input. -/
def fnExactRoundOfWrong : ChangeSpec := { name := "fnExactRoundOf", fn := fun _ => fun
  | [d] => { results := [.lit (.bool false)], args := [d] }
  | _ => none }
def FnExactRoundOfWrongFalsely : Prop := fnExactRoundOfRow.holds Try.pinned (OpenSpec.ofChange fnExactRoundOfWrong)

/-- 'laws.FnExactTipsAtDrop': WHATEVER THE INPUT: true; the input reads as it did. -/
def fnExactTipsAtDropSpec : ChangeSpec := { name := "fnExactTipsAtDrop", fn := fun _ => fun
  | [d1, d2] => { results := [.lit (.bool true)], args := [d1, d2] }
  | _ => none }
def fnExactTipsAtDropRow : OpenClaim := { program := "ytobffdhdpbajhaa", sum := "5ca2bcda003391a2e78d82ec81dffcf486f86d73f6202c024b71ede1340607be", func := "loop.example/g01208/laws.FnExactTipsAtDrop", spec := "fnExactTipsAtDrop", unfollowed := true, recurses := true, apart := false }
def FnExactTipsAtDropSaid : Prop := fnExactTipsAtDropRow.holds Try.pinned (OpenSpec.ofChange fnExactTipsAtDropSpec)

/-- ITS FALSE NEIGHBOUR: 'it returns false'. Refute it at one input. -/
def fnExactTipsAtDropWrong : ChangeSpec := { name := "fnExactTipsAtDrop", fn := fun _ => fun
  | [d1, d2] => { results := [.lit (.bool false)], args := [d1, d2] }
  | _ => none }
def FnExactTipsAtDropWrongFalsely : Prop := fnExactTipsAtDropRow.holds Try.pinned (OpenSpec.ofChange fnExactTipsAtDropWrong)

/-- 'laws.FnExactRangeOfTips': WHATEVER THE INPUT: true; the input reads as it did. -/
def fnExactRangeOfTipsSpec : ChangeSpec := { name := "fnExactRangeOfTips", fn := fun _ => fun
  | [d1, d2] => { results := [.lit (.bool true)], args := [d1, d2] }
  | _ => none }
def fnExactRangeOfTipsRow : OpenClaim := { program := "ytobffdhdpbajhaa", sum := "5ca2bcda003391a2e78d82ec81dffcf486f86d73f6202c024b71ede1340607be", func := "loop.example/g01208/laws.FnExactRangeOfTips", spec := "fnExactRangeOfTips", unfollowed := true, recurses := true, apart := false }
def FnExactRangeOfTipsSaid : Prop := fnExactRangeOfTipsRow.holds Try.pinned (OpenSpec.ofChange fnExactRangeOfTipsSpec)

/-- ITS FALSE NEIGHBOUR: 'it returns false'. Refute it at one input. -/
def fnExactRangeOfTipsWrong : ChangeSpec := { name := "fnExactRangeOfTips", fn := fun _ => fun
  | [d1, d2] => { results := [.lit (.bool false)], args := [d1, d2] }
  | _ => none }
def FnExactRangeOfTipsWrongFalsely : Prop := fnExactRangeOfTipsRow.holds Try.pinned (OpenSpec.ofChange fnExactRangeOfTipsWrong)

/-- 'laws.FnExactRestOfRain': WHATEVER THE INPUT: true; the input reads as it did. -/
def fnExactRestOfRainSpec : ChangeSpec := { name := "fnExactRestOfRain", fn := fun _ => fun
  | [d1, d2] => { results := [.lit (.bool true)], args := [d1, d2] }
  | _ => none }
def fnExactRestOfRainRow : OpenClaim := { program := "ytobffdhdpbajhaa", sum := "5ca2bcda003391a2e78d82ec81dffcf486f86d73f6202c024b71ede1340607be", func := "loop.example/g01208/laws.FnExactRestOfRain", spec := "fnExactRestOfRain", unfollowed := true, recurses := true, apart := false }
def FnExactRestOfRainSaid : Prop := fnExactRestOfRainRow.holds Try.pinned (OpenSpec.ofChange fnExactRestOfRainSpec)

/-- ITS FALSE NEIGHBOUR: 'it returns false'. Refute it at one input. -/
def fnExactRestOfRainWrong : ChangeSpec := { name := "fnExactRestOfRain", fn := fun _ => fun
  | [d1, d2] => { results := [.lit (.bool false)], args := [d1, d2] }
  | _ => none }
def FnExactRestOfRainWrongFalsely : Prop := fnExactRestOfRainRow.holds Try.pinned (OpenSpec.ofChange fnExactRestOfRainWrong)

/-- 'laws.FnExactFirstTip': WHATEVER THE INPUT: true; the input reads as it did. -/
def fnExactFirstTipSpec : ChangeSpec := { name := "fnExactFirstTip", fn := fun _ => fun
  | [d1, d2] => { results := [.lit (.bool true)], args := [d1, d2] }
  | _ => none }
def fnExactFirstTipRow : OpenClaim := { program := "ytobffdhdpbajhaa", sum := "5ca2bcda003391a2e78d82ec81dffcf486f86d73f6202c024b71ede1340607be", func := "loop.example/g01208/laws.FnExactFirstTip", spec := "fnExactFirstTip", unfollowed := true, recurses := true, apart := false }
def FnExactFirstTipSaid : Prop := fnExactFirstTipRow.holds Try.pinned (OpenSpec.ofChange fnExactFirstTipSpec)

/-- ITS FALSE NEIGHBOUR: 'it returns false'. Refute it at one input. -/
def fnExactFirstTipWrong : ChangeSpec := { name := "fnExactFirstTip", fn := fun _ => fun
  | [d1, d2] => { results := [.lit (.bool false)], args := [d1, d2] }
  | _ => none }
def FnExactFirstTipWrongFalsely : Prop := fnExactFirstTipRow.holds Try.pinned (OpenSpec.ofChange fnExactFirstTipWrong)

/-- 'laws.FnExactRainOfTips': WHATEVER THE INPUT: true; the input reads as it did. -/
def fnExactRainOfTipsSpec : ChangeSpec := { name := "fnExactRainOfTips", fn := fun _ => fun
  | [d1, d2] => { results := [.lit (.bool true)], args := [d1, d2] }
  | _ => none }
def fnExactRainOfTipsRow : OpenClaim := { program := "ytobffdhdpbajhaa", sum := "5ca2bcda003391a2e78d82ec81dffcf486f86d73f6202c024b71ede1340607be", func := "loop.example/g01208/laws.FnExactRainOfTips", spec := "fnExactRainOfTips", unfollowed := true, recurses := true, apart := false }
def FnExactRainOfTipsSaid : Prop := fnExactRainOfTipsRow.holds Try.pinned (OpenSpec.ofChange fnExactRainOfTipsSpec)

/-- ITS FALSE NEIGHBOUR: 'it returns false'. Refute it at one input. -/
def fnExactRainOfTipsWrong : ChangeSpec := { name := "fnExactRainOfTips", fn := fun _ => fun
  | [d1, d2] => { results := [.lit (.bool false)], args := [d1, d2] }
  | _ => none }
def FnExactRainOfTipsWrongFalsely : Prop := fnExactRainOfTipsRow.holds Try.pinned (OpenSpec.ofChange fnExactRainOfTipsWrong)

/-- 'laws.FnExactTipsAfter': WHATEVER THE INPUT: true; the input reads as it did. -/
def fnExactTipsAfterSpec : ChangeSpec := { name := "fnExactTipsAfter", fn := fun _ => fun
  | [d1, d2] => { results := [.lit (.bool true)], args := [d1, d2] }
  | _ => none }
def fnExactTipsAfterRow : OpenClaim := { program := "ytobffdhdpbajhaa", sum := "5ca2bcda003391a2e78d82ec81dffcf486f86d73f6202c024b71ede1340607be", func := "loop.example/g01208/laws.FnExactTipsAfter", spec := "fnExactTipsAfter", unfollowed := true, recurses := true, apart := false }
def FnExactTipsAfterSaid : Prop := fnExactTipsAfterRow.holds Try.pinned (OpenSpec.ofChange fnExactTipsAfterSpec)

/-- ITS FALSE NEIGHBOUR: 'it returns false'. Refute it at one input. -/
def fnExactTipsAfterWrong : ChangeSpec := { name := "fnExactTipsAfter", fn := fun _ => fun
  | [d1, d2] => { results := [.lit (.bool false)], args := [d1, d2] }
  | _ => none }
def FnExactTipsAfterWrongFalsely : Prop := fnExactTipsAfterRow.holds Try.pinned (OpenSpec.ofChange fnExactTipsAfterWrong)

/-- 'laws.FnExactTipsOfRain': WHATEVER THE INPUT: true; the input reads as it did. -/
def fnExactTipsOfRainSpec : ChangeSpec := { name := "fnExactTipsOfRain", fn := fun _ => fun
  | [d1, d2] => { results := [.lit (.bool true)], args := [d1, d2] }
  | _ => none }
def fnExactTipsOfRainRow : OpenClaim := { program := "ytobffdhdpbajhaa", sum := "5ca2bcda003391a2e78d82ec81dffcf486f86d73f6202c024b71ede1340607be", func := "loop.example/g01208/laws.FnExactTipsOfRain", spec := "fnExactTipsOfRain", unfollowed := true, recurses := true, apart := false }
def FnExactTipsOfRainSaid : Prop := fnExactTipsOfRainRow.holds Try.pinned (OpenSpec.ofChange fnExactTipsOfRainSpec)

/-- ITS FALSE NEIGHBOUR: 'it returns false'. Refute it at one input. -/
def fnExactTipsOfRainWrong : ChangeSpec := { name := "fnExactTipsOfRain", fn := fun _ => fun
  | [d1, d2] => { results := [.lit (.bool false)], args := [d1, d2] }
  | _ => none }
def FnExactTipsOfRainWrongFalsely : Prop := fnExactTipsOfRainRow.holds Try.pinned (OpenSpec.ofChange fnExactTipsOfRainWrong)

/-- 'laws.FnExactHeldAfter': WHATEVER THE INPUT: true; the input reads as it did. -/
def fnExactHeldAfterSpec : ChangeSpec := { name := "fnExactHeldAfter", fn := fun _ => fun
  | [d1, d2] => { results := [.lit (.bool true)], args := [d1, d2] }
  | _ => none }
def fnExactHeldAfterRow : OpenClaim := { program := "ytobffdhdpbajhaa", sum := "5ca2bcda003391a2e78d82ec81dffcf486f86d73f6202c024b71ede1340607be", func := "loop.example/g01208/laws.FnExactHeldAfter", spec := "fnExactHeldAfter", unfollowed := true, recurses := true, apart := false }
def FnExactHeldAfterSaid : Prop := fnExactHeldAfterRow.holds Try.pinned (OpenSpec.ofChange fnExactHeldAfterSpec)

/-- ITS FALSE NEIGHBOUR: 'it returns false'. Refute it at one input. -/
def fnExactHeldAfterWrong : ChangeSpec := { name := "fnExactHeldAfter", fn := fun _ => fun
  | [d1, d2] => { results := [.lit (.bool false)], args := [d1, d2] }
  | _ => none }
def FnExactHeldAfterWrongFalsely : Prop := fnExactHeldAfterRow.holds Try.pinned (OpenSpec.ofChange fnExactHeldAfterWrong)

/-- 'laws.FnExactDropsFor': WHATEVER THE INPUT: true; the input reads as it did. -/
def fnExactDropsForSpec : ChangeSpec := { name := "fnExactDropsFor", fn := fun _ => fun
  | [d1, d2] => { results := [.lit (.bool true)], args := [d1, d2] }
  | _ => none }
def fnExactDropsForRow : OpenClaim := { program := "ytobffdhdpbajhaa", sum := "5ca2bcda003391a2e78d82ec81dffcf486f86d73f6202c024b71ede1340607be", func := "loop.example/g01208/laws.FnExactDropsFor", spec := "fnExactDropsFor", unfollowed := true, recurses := true, apart := false }
def FnExactDropsForSaid : Prop := fnExactDropsForRow.holds Try.pinned (OpenSpec.ofChange fnExactDropsForSpec)

/-- ITS FALSE NEIGHBOUR: 'it returns false'. Refute it at one input. -/
def fnExactDropsForWrong : ChangeSpec := { name := "fnExactDropsFor", fn := fun _ => fun
  | [d1, d2] => { results := [.lit (.bool false)], args := [d1, d2] }
  | _ => none }
def FnExactDropsForWrongFalsely : Prop := fnExactDropsForRow.holds Try.pinned (OpenSpec.ofChange fnExactDropsForWrong)

/-- 'laws.FnExactRangeOfTwo': WHATEVER THE INPUT: true; the input reads as it did. -/
def fnExactRangeOfTwoSpec : ChangeSpec := { name := "fnExactRangeOfTwo", fn := fun _ => fun
  | [d1, d2, d3, d4] => { results := [.lit (.bool true)], args := [d1, d2, d3, d4] }
  | _ => none }
def fnExactRangeOfTwoRow : OpenClaim := { program := "ytobffdhdpbajhaa", sum := "5ca2bcda003391a2e78d82ec81dffcf486f86d73f6202c024b71ede1340607be", func := "loop.example/g01208/laws.FnExactRangeOfTwo", spec := "fnExactRangeOfTwo", unfollowed := true, recurses := true, apart := false }
def FnExactRangeOfTwoSaid : Prop := fnExactRangeOfTwoRow.holds Try.pinned (OpenSpec.ofChange fnExactRangeOfTwoSpec)

/-- ITS FALSE NEIGHBOUR: 'it returns false'. Refute it at one input. -/
def fnExactRangeOfTwoWrong : ChangeSpec := { name := "fnExactRangeOfTwo", fn := fun _ => fun
  | [d1, d2, d3, d4] => { results := [.lit (.bool false)], args := [d1, d2, d3, d4] }
  | _ => none }
def FnExactRangeOfTwoWrongFalsely : Prop := fnExactRangeOfTwoRow.holds Try.pinned (OpenSpec.ofChange fnExactRangeOfTwoWrong)

/-- 'laws.FnExactAddDrops': WHATEVER THE INPUT: true; the input reads as it did. -/
def fnExactAddDropsSpec : ChangeSpec := { name := "fnExactAddDrops", fn := fun _ => fun
  | [d1, d2, d3] => { results := [.lit (.bool true)], args := [d1, d2, d3] }
  | _ => none }
def fnExactAddDropsRow : OpenClaim := { program := "ytobffdhdpbajhaa", sum := "5ca2bcda003391a2e78d82ec81dffcf486f86d73f6202c024b71ede1340607be", func := "loop.example/g01208/laws.FnExactAddDrops", spec := "fnExactAddDrops", unfollowed := true, recurses := true, apart := false }
def FnExactAddDropsSaid : Prop := fnExactAddDropsRow.holds Try.pinned (OpenSpec.ofChange fnExactAddDropsSpec)

/-- ITS FALSE NEIGHBOUR: 'it returns false'. Refute it at one input. -/
def fnExactAddDropsWrong : ChangeSpec := { name := "fnExactAddDrops", fn := fun _ => fun
  | [d1, d2, d3] => { results := [.lit (.bool false)], args := [d1, d2, d3] }
  | _ => none }
def FnExactAddDropsWrongFalsely : Prop := fnExactAddDropsRow.holds Try.pinned (OpenSpec.ofChange fnExactAddDropsWrong)

/-- 'laws.FnExactBackDrops': WHATEVER THE INPUT: true; the input reads as it did. -/
def fnExactBackDropsSpec : ChangeSpec := { name := "fnExactBackDrops", fn := fun _ => fun
  | [d1, d2, d3] => { results := [.lit (.bool true)], args := [d1, d2, d3] }
  | _ => none }
def fnExactBackDropsRow : OpenClaim := { program := "ytobffdhdpbajhaa", sum := "5ca2bcda003391a2e78d82ec81dffcf486f86d73f6202c024b71ede1340607be", func := "loop.example/g01208/laws.FnExactBackDrops", spec := "fnExactBackDrops", unfollowed := true, recurses := true, apart := false }
def FnExactBackDropsSaid : Prop := fnExactBackDropsRow.holds Try.pinned (OpenSpec.ofChange fnExactBackDropsSpec)

/-- ITS FALSE NEIGHBOUR: 'it returns false'. Refute it at one input. -/
def fnExactBackDropsWrong : ChangeSpec := { name := "fnExactBackDrops", fn := fun _ => fun
  | [d1, d2, d3] => { results := [.lit (.bool false)], args := [d1, d2, d3] }
  | _ => none }
def FnExactBackDropsWrongFalsely : Prop := fnExactBackDropsRow.holds Try.pinned (OpenSpec.ofChange fnExactBackDropsWrong)

/- THE SECOND FORM. 'bulk': how many values and letters a reading holds, each counted each time it is reached (what is shared counts as often as it is met; a slice's spare places count too). A statement '..UptoSaid' is the law's where the arguments, and the package variables that the reading takes, are together of bulk at most 1048576: NARROWER than '..Said'. Prove '..Said' where nothing that the law and all that it calls make is longer than what came in: it says more and counts as full. Else prove '..UptoSaid'. A law counts once. -/
mutual
def uptoBulk {H : Type} : DataW H → Nat
  | .lit (.string bytes) => bytes.length + 1
  | .lit _ => 1
  | .nil => 1
  | .ptr d => uptoBulk d + 1
  | .slice elems spare => uptoBulkAll elems + uptoBulkAll spare + 1
  | .agg parts => uptoBulkAll parts + 1
  | .iface _ d => uptoBulk d + 1
  | .map entries => uptoBulkEntries entries + 1
  | .held _ => 1
def uptoBulkAll {H : Type} : List (DataW H) → Nat
  | [] => 0
  | d :: r => uptoBulk d + uptoBulkAll r
def uptoBulkEntries {H : Type} : List (Lit × DataW H) → Nat
  | [] => 0
  | x :: r => uptoBulkEntry x + uptoBulkEntries r
def uptoBulkEntry {H : Type} : Lit × DataW H → Nat
  | (.string bytes, d) => bytes.length + uptoBulk d + 1
  | (_, d) => uptoBulk d + 1
 end
def uptoSmall : (H : Type) → List (DataW H) → Bool := fun _ ds => decide (uptoBulkAll ds ≤ 1048576)
def OpenSpec.upto (s : _root_.Go.ChangeSpec) : _root_.Go.OpenSpec := { _root_.Go.OpenSpec.ofChange s with cond := some uptoSmall }

/-- 'laws.FnExactAreCaps', WHERE WHAT IT READS IS OF BULK AT MOST 1048576: true; the input reads as it did. -/
def fnExactAreCapsUptoRow : OpenClaim := { program := "ytobffdhdpbajhaa", sum := "5ca2bcda003391a2e78d82ec81dffcf486f86d73f6202c024b71ede1340607be", func := "loop.example/g01208/laws.FnExactAreCaps", spec := "fnExactAreCaps", unfollowed := true, recurses := true, apart := false, narrowed := true }
def FnExactAreCapsUptoSaid : Prop := fnExactAreCapsUptoRow.holds Try.pinned (OpenSpec.upto fnExactAreCapsSpec)

/-- 'laws.FnExactRoundOf', WHERE WHAT IT READS IS OF BULK AT MOST 1048576: true; the input reads as it did. -/
def fnExactRoundOfUptoRow : OpenClaim := { program := "ytobffdhdpbajhaa", sum := "5ca2bcda003391a2e78d82ec81dffcf486f86d73f6202c024b71ede1340607be", func := "loop.example/g01208/laws.FnExactRoundOf", spec := "fnExactRoundOf", unfollowed := true, recurses := true, apart := false, narrowed := true }
def FnExactRoundOfUptoSaid : Prop := fnExactRoundOfUptoRow.holds Try.pinned (OpenSpec.upto fnExactRoundOfSpec)

/-- 'laws.FnExactTipsAtDrop', WHERE WHAT IT READS IS OF BULK AT MOST 1048576: true; the input reads as it did. -/
def fnExactTipsAtDropUptoRow : OpenClaim := { program := "ytobffdhdpbajhaa", sum := "5ca2bcda003391a2e78d82ec81dffcf486f86d73f6202c024b71ede1340607be", func := "loop.example/g01208/laws.FnExactTipsAtDrop", spec := "fnExactTipsAtDrop", unfollowed := true, recurses := true, apart := false, narrowed := true }
def FnExactTipsAtDropUptoSaid : Prop := fnExactTipsAtDropUptoRow.holds Try.pinned (OpenSpec.upto fnExactTipsAtDropSpec)

/-- 'laws.FnExactRangeOfTips', WHERE WHAT IT READS IS OF BULK AT MOST 1048576: true; the input reads as it did. -/
def fnExactRangeOfTipsUptoRow : OpenClaim := { program := "ytobffdhdpbajhaa", sum := "5ca2bcda003391a2e78d82ec81dffcf486f86d73f6202c024b71ede1340607be", func := "loop.example/g01208/laws.FnExactRangeOfTips", spec := "fnExactRangeOfTips", unfollowed := true, recurses := true, apart := false, narrowed := true }
def FnExactRangeOfTipsUptoSaid : Prop := fnExactRangeOfTipsUptoRow.holds Try.pinned (OpenSpec.upto fnExactRangeOfTipsSpec)

/-- 'laws.FnExactRestOfRain', WHERE WHAT IT READS IS OF BULK AT MOST 1048576: true; the input reads as it did. -/
def fnExactRestOfRainUptoRow : OpenClaim := { program := "ytobffdhdpbajhaa", sum := "5ca2bcda003391a2e78d82ec81dffcf486f86d73f6202c024b71ede1340607be", func := "loop.example/g01208/laws.FnExactRestOfRain", spec := "fnExactRestOfRain", unfollowed := true, recurses := true, apart := false, narrowed := true }
def FnExactRestOfRainUptoSaid : Prop := fnExactRestOfRainUptoRow.holds Try.pinned (OpenSpec.upto fnExactRestOfRainSpec)

/-- 'laws.FnExactFirstTip', WHERE WHAT IT READS IS OF BULK AT MOST 1048576: true; the input reads as it did. -/
def fnExactFirstTipUptoRow : OpenClaim := { program := "ytobffdhdpbajhaa", sum := "5ca2bcda003391a2e78d82ec81dffcf486f86d73f6202c024b71ede1340607be", func := "loop.example/g01208/laws.FnExactFirstTip", spec := "fnExactFirstTip", unfollowed := true, recurses := true, apart := false, narrowed := true }
def FnExactFirstTipUptoSaid : Prop := fnExactFirstTipUptoRow.holds Try.pinned (OpenSpec.upto fnExactFirstTipSpec)

/-- 'laws.FnExactRainOfTips', WHERE WHAT IT READS IS OF BULK AT MOST 1048576: true; the input reads as it did. -/
def fnExactRainOfTipsUptoRow : OpenClaim := { program := "ytobffdhdpbajhaa", sum := "5ca2bcda003391a2e78d82ec81dffcf486f86d73f6202c024b71ede1340607be", func := "loop.example/g01208/laws.FnExactRainOfTips", spec := "fnExactRainOfTips", unfollowed := true, recurses := true, apart := false, narrowed := true }
def FnExactRainOfTipsUptoSaid : Prop := fnExactRainOfTipsUptoRow.holds Try.pinned (OpenSpec.upto fnExactRainOfTipsSpec)

/-- 'laws.FnExactTipsAfter', WHERE WHAT IT READS IS OF BULK AT MOST 1048576: true; the input reads as it did. -/
def fnExactTipsAfterUptoRow : OpenClaim := { program := "ytobffdhdpbajhaa", sum := "5ca2bcda003391a2e78d82ec81dffcf486f86d73f6202c024b71ede1340607be", func := "loop.example/g01208/laws.FnExactTipsAfter", spec := "fnExactTipsAfter", unfollowed := true, recurses := true, apart := false, narrowed := true }
def FnExactTipsAfterUptoSaid : Prop := fnExactTipsAfterUptoRow.holds Try.pinned (OpenSpec.upto fnExactTipsAfterSpec)

/-- 'laws.FnExactTipsOfRain', WHERE WHAT IT READS IS OF BULK AT MOST 1048576: true; the input reads as it did. -/
def fnExactTipsOfRainUptoRow : OpenClaim := { program := "ytobffdhdpbajhaa", sum := "5ca2bcda003391a2e78d82ec81dffcf486f86d73f6202c024b71ede1340607be", func := "loop.example/g01208/laws.FnExactTipsOfRain", spec := "fnExactTipsOfRain", unfollowed := true, recurses := true, apart := false, narrowed := true }
def FnExactTipsOfRainUptoSaid : Prop := fnExactTipsOfRainUptoRow.holds Try.pinned (OpenSpec.upto fnExactTipsOfRainSpec)

/-- 'laws.FnExactHeldAfter', WHERE WHAT IT READS IS OF BULK AT MOST 1048576: true; the input reads as it did. -/
def fnExactHeldAfterUptoRow : OpenClaim := { program := "ytobffdhdpbajhaa", sum := "5ca2bcda003391a2e78d82ec81dffcf486f86d73f6202c024b71ede1340607be", func := "loop.example/g01208/laws.FnExactHeldAfter", spec := "fnExactHeldAfter", unfollowed := true, recurses := true, apart := false, narrowed := true }
def FnExactHeldAfterUptoSaid : Prop := fnExactHeldAfterUptoRow.holds Try.pinned (OpenSpec.upto fnExactHeldAfterSpec)

/-- 'laws.FnExactDropsFor', WHERE WHAT IT READS IS OF BULK AT MOST 1048576: true; the input reads as it did. -/
def fnExactDropsForUptoRow : OpenClaim := { program := "ytobffdhdpbajhaa", sum := "5ca2bcda003391a2e78d82ec81dffcf486f86d73f6202c024b71ede1340607be", func := "loop.example/g01208/laws.FnExactDropsFor", spec := "fnExactDropsFor", unfollowed := true, recurses := true, apart := false, narrowed := true }
def FnExactDropsForUptoSaid : Prop := fnExactDropsForUptoRow.holds Try.pinned (OpenSpec.upto fnExactDropsForSpec)

/-- 'laws.FnExactRangeOfTwo', WHERE WHAT IT READS IS OF BULK AT MOST 1048576: true; the input reads as it did. -/
def fnExactRangeOfTwoUptoRow : OpenClaim := { program := "ytobffdhdpbajhaa", sum := "5ca2bcda003391a2e78d82ec81dffcf486f86d73f6202c024b71ede1340607be", func := "loop.example/g01208/laws.FnExactRangeOfTwo", spec := "fnExactRangeOfTwo", unfollowed := true, recurses := true, apart := false, narrowed := true }
def FnExactRangeOfTwoUptoSaid : Prop := fnExactRangeOfTwoUptoRow.holds Try.pinned (OpenSpec.upto fnExactRangeOfTwoSpec)

/-- 'laws.FnExactAddDrops', WHERE WHAT IT READS IS OF BULK AT MOST 1048576: true; the input reads as it did. -/
def fnExactAddDropsUptoRow : OpenClaim := { program := "ytobffdhdpbajhaa", sum := "5ca2bcda003391a2e78d82ec81dffcf486f86d73f6202c024b71ede1340607be", func := "loop.example/g01208/laws.FnExactAddDrops", spec := "fnExactAddDrops", unfollowed := true, recurses := true, apart := false, narrowed := true }
def FnExactAddDropsUptoSaid : Prop := fnExactAddDropsUptoRow.holds Try.pinned (OpenSpec.upto fnExactAddDropsSpec)

/-- 'laws.FnExactBackDrops', WHERE WHAT IT READS IS OF BULK AT MOST 1048576: true; the input reads as it did. -/
def fnExactBackDropsUptoRow : OpenClaim := { program := "ytobffdhdpbajhaa", sum := "5ca2bcda003391a2e78d82ec81dffcf486f86d73f6202c024b71ede1340607be", func := "loop.example/g01208/laws.FnExactBackDrops", spec := "fnExactBackDrops", unfollowed := true, recurses := true, apart := false, narrowed := true }
def FnExactBackDropsUptoSaid : Prop := fnExactBackDropsUptoRow.holds Try.pinned (OpenSpec.upto fnExactBackDropsSpec)

end Rows
end Go.Proofs.Ytobffdhdpbajhaa
