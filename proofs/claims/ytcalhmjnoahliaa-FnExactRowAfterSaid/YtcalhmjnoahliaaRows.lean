/-
  No cell of these rows narrows 'for every input' (looked for: loops, veiled, ifaces, maps, wideKeys, modest, calm, conditions, laid).
  DERIVED. THE GIVEN ROWS OF THIS SEAT. 16 by the template 'for every input the law returns true; each argument reads behind the call as it read before'; 0 by the template 'total and deterministic' (their statements: YtcalhmjnoahliaaTotals.lean).
  GIVEN WITH THE SEED: the statements are not yours to turn. If you find one false, say at which input.
  Laid BY PROGRAM, IN A SANDBOX (cutbox-rows.mjs): the forced cells as the released guide's own fill.sh prints them over the translation 35da9c772d08dab9… (all of the seat's roots in one cut). By AI agents, Wed Nov 11 2026. No macro, syntax, notation, axiom, sorry.
-/
import Derived.Test.YtcalhmjnoahliaaChecked
import GoSem.Claim
import GoSem.ClaimJoined
import GoSem.ClaimMapViews
import Derived.JoinedTies
import Derived.KernelRfl
namespace Go.Proofs.Ytcalhmjnoahliaa
/- THE CELL 'sum', in the pinned program and in every row, IS THE sha256 OF THE DUMP (.gsa) THAT YtcalhmjnoahliaaProg.lean LOADS. Nothing in Lean hashes anything: it is a label: what it is worth is what the hold of that sum in a sandbox is worth. -/
noncomputable def Try.pinned : Pinned := { name := "ytcalhmjnoahliaa", sum := "35da9c772d08dab922363540135f14838c41a0951429097775c72c5107e459e7", checked := Try.checked }
namespace Rows
def none {H : Type} : Left H := { results := [], args := [] }

/-- 'laws.FnExactAreFlows': WHATEVER THE INPUT: true; the input reads as it did. -/
def fnExactAreFlowsSpec : ChangeSpec := { name := "fnExactAreFlows", fn := fun _ => fun
  | [d] => { results := [.lit (.bool true)], args := [d] }
  | _ => none }
def fnExactAreFlowsRow : OpenClaim := { program := "ytcalhmjnoahliaa", sum := "35da9c772d08dab922363540135f14838c41a0951429097775c72c5107e459e7", func := "loop.example/g01208/laws.FnExactAreFlows", spec := "fnExactAreFlows", unfollowed := true, recurses := true, apart := false }
def FnExactAreFlowsSaid : Prop := fnExactAreFlowsRow.holds Try.pinned (OpenSpec.ofChange fnExactAreFlowsSpec)

/-- ITS FALSE NEIGHBOUR: 'it returns false'. Refute it at one input. -/
def fnExactAreFlowsWrong : ChangeSpec := { name := "fnExactAreFlows", fn := fun _ => fun
  | [d] => { results := [.lit (.bool false)], args := [d] }
  | _ => none }
def FnExactAreFlowsWrongFalsely : Prop := fnExactAreFlowsRow.holds Try.pinned (OpenSpec.ofChange fnExactAreFlowsWrong)

/-- 'laws.FnExactIsRow': WHATEVER THE INPUT: true; the input reads as it did. -/
def fnExactIsRowSpec : ChangeSpec := { name := "fnExactIsRow", fn := fun _ => fun
  | [d] => { results := [.lit (.bool true)], args := [d] }
  | _ => none }
def fnExactIsRowRow : OpenClaim := { program := "ytcalhmjnoahliaa", sum := "35da9c772d08dab922363540135f14838c41a0951429097775c72c5107e459e7", func := "loop.example/g01208/laws.FnExactIsRow", spec := "fnExactIsRow", unfollowed := true, recurses := true, apart := false }
def FnExactIsRowSaid : Prop := fnExactIsRowRow.holds Try.pinned (OpenSpec.ofChange fnExactIsRowSpec)

/-- ITS FALSE NEIGHBOUR: 'it returns false'. Refute it at one input. -/
def fnExactIsRowWrong : ChangeSpec := { name := "fnExactIsRow", fn := fun _ => fun
  | [d] => { results := [.lit (.bool false)], args := [d] }
  | _ => none }
def FnExactIsRowWrongFalsely : Prop := fnExactIsRowRow.holds Try.pinned (OpenSpec.ofChange fnExactIsRowWrong)

/-- 'laws.FnExactRunningTotals': WHATEVER THE INPUT: true; the input reads as it did. -/
def fnExactRunningTotalsSpec : ChangeSpec := { name := "fnExactRunningTotals", fn := fun _ => fun
  | [d] => { results := [.lit (.bool true)], args := [d] }
  | _ => none }
def fnExactRunningTotalsRow : OpenClaim := { program := "ytcalhmjnoahliaa", sum := "35da9c772d08dab922363540135f14838c41a0951429097775c72c5107e459e7", func := "loop.example/g01208/laws.FnExactRunningTotals", spec := "fnExactRunningTotals", unfollowed := true, recurses := true, apart := false }
def FnExactRunningTotalsSaid : Prop := fnExactRunningTotalsRow.holds Try.pinned (OpenSpec.ofChange fnExactRunningTotalsSpec)

/-- ITS FALSE NEIGHBOUR: 'it returns false'. Refute it at one input. -/
def fnExactRunningTotalsWrong : ChangeSpec := { name := "fnExactRunningTotals", fn := fun _ => fun
  | [d] => { results := [.lit (.bool false)], args := [d] }
  | _ => none }
def FnExactRunningTotalsWrongFalsely : Prop := fnExactRunningTotalsRow.holds Try.pinned (OpenSpec.ofChange fnExactRunningTotalsWrong)

/-- 'laws.FnExactHeldInRow': WHATEVER THE INPUT: true; the input reads as it did. -/
def fnExactHeldInRowSpec : ChangeSpec := { name := "fnExactHeldInRow", fn := fun _ => fun
  | [d] => { results := [.lit (.bool true)], args := [d] }
  | _ => none }
def fnExactHeldInRowRow : OpenClaim := { program := "ytcalhmjnoahliaa", sum := "35da9c772d08dab922363540135f14838c41a0951429097775c72c5107e459e7", func := "loop.example/g01208/laws.FnExactHeldInRow", spec := "fnExactHeldInRow", unfollowed := true, recurses := true, apart := false }
def FnExactHeldInRowSaid : Prop := fnExactHeldInRowRow.holds Try.pinned (OpenSpec.ofChange fnExactHeldInRowSpec)

/-- ITS FALSE NEIGHBOUR: 'it returns false'. Refute it at one input. -/
def fnExactHeldInRowWrong : ChangeSpec := { name := "fnExactHeldInRow", fn := fun _ => fun
  | [d] => { results := [.lit (.bool false)], args := [d] }
  | _ => none }
def FnExactHeldInRowWrongFalsely : Prop := fnExactHeldInRowRow.holds Try.pinned (OpenSpec.ofChange fnExactHeldInRowWrong)

/-- 'laws.FnExactJoinRows': WHATEVER THE INPUT: true; the input reads as it did. -/
def fnExactJoinRowsSpec : ChangeSpec := { name := "fnExactJoinRows", fn := fun _ => fun
  | [d1, d2] => { results := [.lit (.bool true)], args := [d1, d2] }
  | _ => none }
def fnExactJoinRowsRow : OpenClaim := { program := "ytcalhmjnoahliaa", sum := "35da9c772d08dab922363540135f14838c41a0951429097775c72c5107e459e7", func := "loop.example/g01208/laws.FnExactJoinRows", spec := "fnExactJoinRows", unfollowed := true, recurses := true, apart := false }
def FnExactJoinRowsSaid : Prop := fnExactJoinRowsRow.holds Try.pinned (OpenSpec.ofChange fnExactJoinRowsSpec)

/-- ITS FALSE NEIGHBOUR: 'it returns false'. Refute it at one input. -/
def fnExactJoinRowsWrong : ChangeSpec := { name := "fnExactJoinRows", fn := fun _ => fun
  | [d1, d2] => { results := [.lit (.bool false)], args := [d1, d2] }
  | _ => none }
def FnExactJoinRowsWrongFalsely : Prop := fnExactJoinRowsRow.holds Try.pinned (OpenSpec.ofChange fnExactJoinRowsWrong)

/-- 'laws.FnExactTickRow': WHATEVER THE INPUT: true; the input reads as it did. -/
def fnExactTickRowSpec : ChangeSpec := { name := "fnExactTickRow", fn := fun _ => fun
  | [d1, d2] => { results := [.lit (.bool true)], args := [d1, d2] }
  | _ => none }
def fnExactTickRowRow : OpenClaim := { program := "ytcalhmjnoahliaa", sum := "35da9c772d08dab922363540135f14838c41a0951429097775c72c5107e459e7", func := "loop.example/g01208/laws.FnExactTickRow", spec := "fnExactTickRow", unfollowed := true, recurses := true, apart := false }
def FnExactTickRowSaid : Prop := fnExactTickRowRow.holds Try.pinned (OpenSpec.ofChange fnExactTickRowSpec)

/-- ITS FALSE NEIGHBOUR: 'it returns false'. Refute it at one input. -/
def fnExactTickRowWrong : ChangeSpec := { name := "fnExactTickRow", fn := fun _ => fun
  | [d1, d2] => { results := [.lit (.bool false)], args := [d1, d2] }
  | _ => none }
def FnExactTickRowWrongFalsely : Prop := fnExactTickRowRow.holds Try.pinned (OpenSpec.ofChange fnExactTickRowWrong)

/-- 'laws.FnExactTicksToEmpty': WHATEVER THE INPUT: true; the input reads as it did. -/
def fnExactTicksToEmptySpec : ChangeSpec := { name := "fnExactTicksToEmpty", fn := fun _ => fun
  | [d] => { results := [.lit (.bool true)], args := [d] }
  | _ => none }
def fnExactTicksToEmptyRow : OpenClaim := { program := "ytcalhmjnoahliaa", sum := "35da9c772d08dab922363540135f14838c41a0951429097775c72c5107e459e7", func := "loop.example/g01208/laws.FnExactTicksToEmpty", spec := "fnExactTicksToEmpty", unfollowed := true, recurses := true, apart := false }
def FnExactTicksToEmptySaid : Prop := fnExactTicksToEmptyRow.holds Try.pinned (OpenSpec.ofChange fnExactTicksToEmptySpec)

/-- ITS FALSE NEIGHBOUR: 'it returns false'. Refute it at one input. -/
def fnExactTicksToEmptyWrong : ChangeSpec := { name := "fnExactTicksToEmpty", fn := fun _ => fun
  | [d] => { results := [.lit (.bool false)], args := [d] }
  | _ => none }
def FnExactTicksToEmptyWrongFalsely : Prop := fnExactTicksToEmptyRow.holds Try.pinned (OpenSpec.ofChange fnExactTicksToEmptyWrong)

/-- 'laws.FnExactFirstSpill': WHATEVER THE INPUT: true; the input reads as it did. -/
def fnExactFirstSpillSpec : ChangeSpec := { name := "fnExactFirstSpill", fn := fun _ => fun
  | [d1, d2] => { results := [.lit (.bool true)], args := [d1, d2] }
  | _ => none }
def fnExactFirstSpillRow : OpenClaim := { program := "ytcalhmjnoahliaa", sum := "35da9c772d08dab922363540135f14838c41a0951429097775c72c5107e459e7", func := "loop.example/g01208/laws.FnExactFirstSpill", spec := "fnExactFirstSpill", unfollowed := true, recurses := true, apart := false }
def FnExactFirstSpillSaid : Prop := fnExactFirstSpillRow.holds Try.pinned (OpenSpec.ofChange fnExactFirstSpillSpec)

/-- ITS FALSE NEIGHBOUR: 'it returns false'. Refute it at one input. -/
def fnExactFirstSpillWrong : ChangeSpec := { name := "fnExactFirstSpill", fn := fun _ => fun
  | [d1, d2] => { results := [.lit (.bool false)], args := [d1, d2] }
  | _ => none }
def FnExactFirstSpillWrongFalsely : Prop := fnExactFirstSpillRow.holds Try.pinned (OpenSpec.ofChange fnExactFirstSpillWrong)

/-- 'laws.FnExactLeastSize': WHATEVER THE INPUT: true; the input reads as it did. -/
def fnExactLeastSizeSpec : ChangeSpec := { name := "fnExactLeastSize", fn := fun _ => fun
  | [d1, d2, d3] => { results := [.lit (.bool true)], args := [d1, d2, d3] }
  | _ => none }
def fnExactLeastSizeRow : OpenClaim := { program := "ytcalhmjnoahliaa", sum := "35da9c772d08dab922363540135f14838c41a0951429097775c72c5107e459e7", func := "loop.example/g01208/laws.FnExactLeastSize", spec := "fnExactLeastSize", unfollowed := true, recurses := true, apart := false }
def FnExactLeastSizeSaid : Prop := fnExactLeastSizeRow.holds Try.pinned (OpenSpec.ofChange fnExactLeastSizeSpec)

/-- ITS FALSE NEIGHBOUR: 'it returns false'. Refute it at one input. -/
def fnExactLeastSizeWrong : ChangeSpec := { name := "fnExactLeastSize", fn := fun _ => fun
  | [d1, d2, d3] => { results := [.lit (.bool false)], args := [d1, d2, d3] }
  | _ => none }
def FnExactLeastSizeWrongFalsely : Prop := fnExactLeastSizeRow.holds Try.pinned (OpenSpec.ofChange fnExactLeastSizeWrong)

/-- 'laws.FnExactPeakOut': WHATEVER THE INPUT: true; the input reads as it did. -/
def fnExactPeakOutSpec : ChangeSpec := { name := "fnExactPeakOut", fn := fun _ => fun
  | [d1, d2] => { results := [.lit (.bool true)], args := [d1, d2] }
  | _ => none }
def fnExactPeakOutRow : OpenClaim := { program := "ytcalhmjnoahliaa", sum := "35da9c772d08dab922363540135f14838c41a0951429097775c72c5107e459e7", func := "loop.example/g01208/laws.FnExactPeakOut", spec := "fnExactPeakOut", unfollowed := true, recurses := true, apart := false }
def FnExactPeakOutSaid : Prop := fnExactPeakOutRow.holds Try.pinned (OpenSpec.ofChange fnExactPeakOutSpec)

/-- ITS FALSE NEIGHBOUR: 'it returns false'. Refute it at one input. -/
def fnExactPeakOutWrong : ChangeSpec := { name := "fnExactPeakOut", fn := fun _ => fun
  | [d1, d2] => { results := [.lit (.bool false)], args := [d1, d2] }
  | _ => none }
def FnExactPeakOutWrongFalsely : Prop := fnExactPeakOutRow.holds Try.pinned (OpenSpec.ofChange fnExactPeakOutWrong)

/-- 'laws.FnExactSteadyHeld': WHATEVER THE INPUT: true; the input reads as it did. -/
def fnExactSteadyHeldSpec : ChangeSpec := { name := "fnExactSteadyHeld", fn := fun _ => fun
  | [d1, d2] => { results := [.lit (.bool true)], args := [d1, d2] }
  | _ => none }
def fnExactSteadyHeldRow : OpenClaim := { program := "ytcalhmjnoahliaa", sum := "35da9c772d08dab922363540135f14838c41a0951429097775c72c5107e459e7", func := "loop.example/g01208/laws.FnExactSteadyHeld", spec := "fnExactSteadyHeld", unfollowed := true, recurses := true, apart := false }
def FnExactSteadyHeldSaid : Prop := fnExactSteadyHeldRow.holds Try.pinned (OpenSpec.ofChange fnExactSteadyHeldSpec)

/-- ITS FALSE NEIGHBOUR: 'it returns false'. Refute it at one input. -/
def fnExactSteadyHeldWrong : ChangeSpec := { name := "fnExactSteadyHeld", fn := fun _ => fun
  | [d1, d2] => { results := [.lit (.bool false)], args := [d1, d2] }
  | _ => none }
def FnExactSteadyHeldWrongFalsely : Prop := fnExactSteadyHeldRow.holds Try.pinned (OpenSpec.ofChange fnExactSteadyHeldWrong)

/-- 'laws.FnExactRunRow': WHATEVER THE INPUT: true; the input reads as it did. -/
def fnExactRunRowSpec : ChangeSpec := { name := "fnExactRunRow", fn := fun _ => fun
  | [d1, d2] => { results := [.lit (.bool true)], args := [d1, d2] }
  | _ => none }
def fnExactRunRowRow : OpenClaim := { program := "ytcalhmjnoahliaa", sum := "35da9c772d08dab922363540135f14838c41a0951429097775c72c5107e459e7", func := "loop.example/g01208/laws.FnExactRunRow", spec := "fnExactRunRow", unfollowed := true, recurses := true, apart := false }
def FnExactRunRowSaid : Prop := fnExactRunRowRow.holds Try.pinned (OpenSpec.ofChange fnExactRunRowSpec)

/-- ITS FALSE NEIGHBOUR: 'it returns false'. Refute it at one input. -/
def fnExactRunRowWrong : ChangeSpec := { name := "fnExactRunRow", fn := fun _ => fun
  | [d1, d2] => { results := [.lit (.bool false)], args := [d1, d2] }
  | _ => none }
def FnExactRunRowWrongFalsely : Prop := fnExactRunRowRow.holds Try.pinned (OpenSpec.ofChange fnExactRunRowWrong)

/-- 'laws.FnExactRowAfter': WHATEVER THE INPUT: true; the input reads as it did. -/
def fnExactRowAfterSpec : ChangeSpec := { name := "fnExactRowAfter", fn := fun _ => fun
  | [d1, d2] => { results := [.lit (.bool true)], args := [d1, d2] }
  | _ => none }
def fnExactRowAfterRow : OpenClaim := { program := "ytcalhmjnoahliaa", sum := "35da9c772d08dab922363540135f14838c41a0951429097775c72c5107e459e7", func := "loop.example/g01208/laws.FnExactRowAfter", spec := "fnExactRowAfter", unfollowed := true, recurses := true, apart := false }
def FnExactRowAfterSaid : Prop := fnExactRowAfterRow.holds Try.pinned (OpenSpec.ofChange fnExactRowAfterSpec)

/-- ITS FALSE NEIGHBOUR: 'it returns false'. Refute it at one input. -/
def fnExactRowAfterWrong : ChangeSpec := { name := "fnExactRowAfter", fn := fun _ => fun
  | [d1, d2] => { results := [.lit (.bool false)], args := [d1, d2] }
  | _ => none }
def FnExactRowAfterWrongFalsely : Prop := fnExactRowAfterRow.holds Try.pinned (OpenSpec.ofChange fnExactRowAfterWrong)

/-- 'laws.FnExactIsHeldBack': WHATEVER THE INPUT: true; the input reads as it did. -/
def fnExactIsHeldBackSpec : ChangeSpec := { name := "fnExactIsHeldBack", fn := fun _ => fun
  | [d1, d2] => { results := [.lit (.bool true)], args := [d1, d2] }
  | _ => none }
def fnExactIsHeldBackRow : OpenClaim := { program := "ytcalhmjnoahliaa", sum := "35da9c772d08dab922363540135f14838c41a0951429097775c72c5107e459e7", func := "loop.example/g01208/laws.FnExactIsHeldBack", spec := "fnExactIsHeldBack", unfollowed := true, recurses := true, apart := false }
def FnExactIsHeldBackSaid : Prop := fnExactIsHeldBackRow.holds Try.pinned (OpenSpec.ofChange fnExactIsHeldBackSpec)

/-- ITS FALSE NEIGHBOUR: 'it returns false'. Refute it at one input. -/
def fnExactIsHeldBackWrong : ChangeSpec := { name := "fnExactIsHeldBack", fn := fun _ => fun
  | [d1, d2] => { results := [.lit (.bool false)], args := [d1, d2] }
  | _ => none }
def FnExactIsHeldBackWrongFalsely : Prop := fnExactIsHeldBackRow.holds Try.pinned (OpenSpec.ofChange fnExactIsHeldBackWrong)

/-- 'laws.FnExactHeldAlong': WHATEVER THE INPUT: true; the input reads as it did. -/
def fnExactHeldAlongSpec : ChangeSpec := { name := "fnExactHeldAlong", fn := fun _ => fun
  | [d1, d2, d3] => { results := [.lit (.bool true)], args := [d1, d2, d3] }
  | _ => none }
def fnExactHeldAlongRow : OpenClaim := { program := "ytcalhmjnoahliaa", sum := "35da9c772d08dab922363540135f14838c41a0951429097775c72c5107e459e7", func := "loop.example/g01208/laws.FnExactHeldAlong", spec := "fnExactHeldAlong", unfollowed := true, recurses := true, apart := false }
def FnExactHeldAlongSaid : Prop := fnExactHeldAlongRow.holds Try.pinned (OpenSpec.ofChange fnExactHeldAlongSpec)

/-- ITS FALSE NEIGHBOUR: 'it returns false'. Refute it at one input. -/
def fnExactHeldAlongWrong : ChangeSpec := { name := "fnExactHeldAlong", fn := fun _ => fun
  | [d1, d2, d3] => { results := [.lit (.bool false)], args := [d1, d2, d3] }
  | _ => none }
def FnExactHeldAlongWrongFalsely : Prop := fnExactHeldAlongRow.holds Try.pinned (OpenSpec.ofChange fnExactHeldAlongWrong)

/-- 'laws.FnExactSpillsOf': WHATEVER THE INPUT: true; the input reads as it did. -/
def fnExactSpillsOfSpec : ChangeSpec := { name := "fnExactSpillsOf", fn := fun _ => fun
  | [d1, d2] => { results := [.lit (.bool true)], args := [d1, d2] }
  | _ => none }
def fnExactSpillsOfRow : OpenClaim := { program := "ytcalhmjnoahliaa", sum := "35da9c772d08dab922363540135f14838c41a0951429097775c72c5107e459e7", func := "loop.example/g01208/laws.FnExactSpillsOf", spec := "fnExactSpillsOf", unfollowed := true, recurses := true, apart := false }
def FnExactSpillsOfSaid : Prop := fnExactSpillsOfRow.holds Try.pinned (OpenSpec.ofChange fnExactSpillsOfSpec)

/-- ITS FALSE NEIGHBOUR: 'it returns false'. Refute it at one input. -/
def fnExactSpillsOfWrong : ChangeSpec := { name := "fnExactSpillsOf", fn := fun _ => fun
  | [d1, d2] => { results := [.lit (.bool false)], args := [d1, d2] }
  | _ => none }
def FnExactSpillsOfWrongFalsely : Prop := fnExactSpillsOfRow.holds Try.pinned (OpenSpec.ofChange fnExactSpillsOfWrong)

/- THE SECOND FORM. 'bulk': how many values and letters a reading holds, each counted each time it is reached (what is shared counts as often as it is met; a slice's spare places count too). A statement '..UptoSaid' is the law's where the arguments, and the package variables that the reading takes, are together of bulk at most 1048576: NARROWER than '..Said'. Prove '..Said' where nothing that the law and all that it calls make is longer than what came in: it says more and counts as full. Else prove '..UptoSaid'. A law counts once. -/
mutual
def uptoBulk {H : Type} : DataW H → Nat
  | .lit (.string bytes) => bytes.length + 1
  | .lit _ => 1
  | .nil => 1
  | .ptr d => uptoBulk d + 1
  | .slice elems spare => uptoBulkAll elems + uptoBulkAll spare + 1
  | .agg parts => uptoBulkAll parts + 1
  | .iface _ d => uptoBulk d + 1
  | .map entries => uptoBulkEntries entries + 1
  | .held _ => 1
def uptoBulkAll {H : Type} : List (DataW H) → Nat
  | [] => 0
  | d :: r => uptoBulk d + uptoBulkAll r
def uptoBulkEntries {H : Type} : List (Lit × DataW H) → Nat
  | [] => 0
  | x :: r => uptoBulkEntry x + uptoBulkEntries r
def uptoBulkEntry {H : Type} : Lit × DataW H → Nat
  | (.string bytes, d) => bytes.length + uptoBulk d + 1
  | (_, d) => uptoBulk d + 1
 end
def uptoSmall : (H : Type) → List (DataW H) → Bool := fun _ ds => decide (uptoBulkAll ds ≤ 1048576)
def OpenSpec.upto (s : _root_.Go.ChangeSpec) : _root_.Go.OpenSpec := { _root_.Go.OpenSpec.ofChange s with cond := some uptoSmall }

/-- 'laws.FnExactAreFlows', WHERE WHAT IT READS IS OF BULK AT MOST 1048576: true; the input reads as it did. -/
def fnExactAreFlowsUptoRow : OpenClaim := { program := "ytcalhmjnoahliaa", sum := "35da9c772d08dab922363540135f14838c41a0951429097775c72c5107e459e7", func := "loop.example/g01208/laws.FnExactAreFlows", spec := "fnExactAreFlows", unfollowed := true, recurses := true, apart := false, narrowed := true }
def FnExactAreFlowsUptoSaid : Prop := fnExactAreFlowsUptoRow.holds Try.pinned (OpenSpec.upto fnExactAreFlowsSpec)

/-- 'laws.FnExactIsRow', WHERE WHAT IT READS IS OF BULK AT MOST 1048576: true; the input reads as it did. -/
def fnExactIsRowUptoRow : OpenClaim := { program := "ytcalhmjnoahliaa", sum := "35da9c772d08dab922363540135f14838c41a0951429097775c72c5107e459e7", func := "loop.example/g01208/laws.FnExactIsRow", spec := "fnExactIsRow", unfollowed := true, recurses := true, apart := false, narrowed := true }
def FnExactIsRowUptoSaid : Prop := fnExactIsRowUptoRow.holds Try.pinned (OpenSpec.upto fnExactIsRowSpec)

/-- 'laws.FnExactRunningTotals', WHERE WHAT IT READS IS OF BULK AT MOST 1048576: true; the input reads as it did. -/
def fnExactRunningTotalsUptoRow : OpenClaim := { program := "ytcalhmjnoahliaa", sum := "35da9c772d08dab922363540135f14838c41a0951429097775c72c5107e459e7", func := "loop.example/g01208/laws.FnExactRunningTotals", spec := "fnExactRunningTotals", unfollowed := true, recurses := true, apart := false, narrowed := true }
def FnExactRunningTotalsUptoSaid : Prop := fnExactRunningTotalsUptoRow.holds Try.pinned (OpenSpec.upto fnExactRunningTotalsSpec)

/-- 'laws.FnExactHeldInRow', WHERE WHAT IT READS IS OF BULK AT MOST 1048576: true; the input reads as it did. -/
def fnExactHeldInRowUptoRow : OpenClaim := { program := "ytcalhmjnoahliaa", sum := "35da9c772d08dab922363540135f14838c41a0951429097775c72c5107e459e7", func := "loop.example/g01208/laws.FnExactHeldInRow", spec := "fnExactHeldInRow", unfollowed := true, recurses := true, apart := false, narrowed := true }
def FnExactHeldInRowUptoSaid : Prop := fnExactHeldInRowUptoRow.holds Try.pinned (OpenSpec.upto fnExactHeldInRowSpec)

/-- 'laws.FnExactJoinRows', WHERE WHAT IT READS IS OF BULK AT MOST 1048576: true; the input reads as it did. -/
def fnExactJoinRowsUptoRow : OpenClaim := { program := "ytcalhmjnoahliaa", sum := "35da9c772d08dab922363540135f14838c41a0951429097775c72c5107e459e7", func := "loop.example/g01208/laws.FnExactJoinRows", spec := "fnExactJoinRows", unfollowed := true, recurses := true, apart := false, narrowed := true }
def FnExactJoinRowsUptoSaid : Prop := fnExactJoinRowsUptoRow.holds Try.pinned (OpenSpec.upto fnExactJoinRowsSpec)

/-- 'laws.FnExactTickRow', WHERE WHAT IT READS IS OF BULK AT MOST 1048576: true; the input reads as it did. -/
def fnExactTickRowUptoRow : OpenClaim := { program := "ytcalhmjnoahliaa", sum := "35da9c772d08dab922363540135f14838c41a0951429097775c72c5107e459e7", func := "loop.example/g01208/laws.FnExactTickRow", spec := "fnExactTickRow", unfollowed := true, recurses := true, apart := false, narrowed := true }
def FnExactTickRowUptoSaid : Prop := fnExactTickRowUptoRow.holds Try.pinned (OpenSpec.upto fnExactTickRowSpec)

/-- 'laws.FnExactTicksToEmpty', WHERE WHAT IT READS IS OF BULK AT MOST 1048576: true; the input reads as it did. -/
def fnExactTicksToEmptyUptoRow : OpenClaim := { program := "ytcalhmjnoahliaa", sum := "35da9c772d08dab922363540135f14838c41a0951429097775c72c5107e459e7", func := "loop.example/g01208/laws.FnExactTicksToEmpty", spec := "fnExactTicksToEmpty", unfollowed := true, recurses := true, apart := false, narrowed := true }
def FnExactTicksToEmptyUptoSaid : Prop := fnExactTicksToEmptyUptoRow.holds Try.pinned (OpenSpec.upto fnExactTicksToEmptySpec)

/-- 'laws.FnExactFirstSpill', WHERE WHAT IT READS IS OF BULK AT MOST 1048576: true; the input reads as it did. -/
def fnExactFirstSpillUptoRow : OpenClaim := { program := "ytcalhmjnoahliaa", sum := "35da9c772d08dab922363540135f14838c41a0951429097775c72c5107e459e7", func := "loop.example/g01208/laws.FnExactFirstSpill", spec := "fnExactFirstSpill", unfollowed := true, recurses := true, apart := false, narrowed := true }
def FnExactFirstSpillUptoSaid : Prop := fnExactFirstSpillUptoRow.holds Try.pinned (OpenSpec.upto fnExactFirstSpillSpec)

/-- 'laws.FnExactLeastSize', WHERE WHAT IT READS IS OF BULK AT MOST 1048576: true; the input reads as it did. -/
def fnExactLeastSizeUptoRow : OpenClaim := { program := "ytcalhmjnoahliaa", sum := "35da9c772d08dab922363540135f14838c41a0951429097775c72c5107e459e7", func := "loop.example/g01208/laws.FnExactLeastSize", spec := "fnExactLeastSize", unfollowed := true, recurses := true, apart := false, narrowed := true }
def FnExactLeastSizeUptoSaid : Prop := fnExactLeastSizeUptoRow.holds Try.pinned (OpenSpec.upto fnExactLeastSizeSpec)

/-- 'laws.FnExactPeakOut', WHERE WHAT IT READS IS OF BULK AT MOST 1048576: true; the input reads as it did. -/
def fnExactPeakOutUptoRow : OpenClaim := { program := "ytcalhmjnoahliaa", sum := "35da9c772d08dab922363540135f14838c41a0951429097775c72c5107e459e7", func := "loop.example/g01208/laws.FnExactPeakOut", spec := "fnExactPeakOut", unfollowed := true, recurses := true, apart := false, narrowed := true }
def FnExactPeakOutUptoSaid : Prop := fnExactPeakOutUptoRow.holds Try.pinned (OpenSpec.upto fnExactPeakOutSpec)

/-- 'laws.FnExactSteadyHeld', WHERE WHAT IT READS IS OF BULK AT MOST 1048576: true; the input reads as it did. -/
def fnExactSteadyHeldUptoRow : OpenClaim := { program := "ytcalhmjnoahliaa", sum := "35da9c772d08dab922363540135f14838c41a0951429097775c72c5107e459e7", func := "loop.example/g01208/laws.FnExactSteadyHeld", spec := "fnExactSteadyHeld", unfollowed := true, recurses := true, apart := false, narrowed := true }
def FnExactSteadyHeldUptoSaid : Prop := fnExactSteadyHeldUptoRow.holds Try.pinned (OpenSpec.upto fnExactSteadyHeldSpec)

/-- 'laws.FnExactRunRow', WHERE WHAT IT READS IS OF BULK AT MOST 1048576: true; the input reads as it did. -/
def fnExactRunRowUptoRow : OpenClaim := { program := "ytcalhmjnoahliaa", sum := "35da9c772d08dab922363540135f14838c41a0951429097775c72c5107e459e7", func := "loop.example/g01208/laws.FnExactRunRow", spec := "fnExactRunRow", unfollowed := true, recurses := true, apart := false, narrowed := true }
def FnExactRunRowUptoSaid : Prop := fnExactRunRowUptoRow.holds Try.pinned (OpenSpec.upto fnExactRunRowSpec)

/-- 'laws.FnExactRowAfter', WHERE WHAT IT READS IS OF BULK AT MOST 1048576: true; the input reads as it did. -/
def fnExactRowAfterUptoRow : OpenClaim := { program := "ytcalhmjnoahliaa", sum := "35da9c772d08dab922363540135f14838c41a0951429097775c72c5107e459e7", func := "loop.example/g01208/laws.FnExactRowAfter", spec := "fnExactRowAfter", unfollowed := true, recurses := true, apart := false, narrowed := true }
def FnExactRowAfterUptoSaid : Prop := fnExactRowAfterUptoRow.holds Try.pinned (OpenSpec.upto fnExactRowAfterSpec)

/-- 'laws.FnExactIsHeldBack', WHERE WHAT IT READS IS OF BULK AT MOST 1048576: true; the input reads as it did. -/
def fnExactIsHeldBackUptoRow : OpenClaim := { program := "ytcalhmjnoahliaa", sum := "35da9c772d08dab922363540135f14838c41a0951429097775c72c5107e459e7", func := "loop.example/g01208/laws.FnExactIsHeldBack", spec := "fnExactIsHeldBack", unfollowed := true, recurses := true, apart := false, narrowed := true }
def FnExactIsHeldBackUptoSaid : Prop := fnExactIsHeldBackUptoRow.holds Try.pinned (OpenSpec.upto fnExactIsHeldBackSpec)

/-- 'laws.FnExactHeldAlong', WHERE WHAT IT READS IS OF BULK AT MOST 1048576: true; the input reads as it did. -/
def fnExactHeldAlongUptoRow : OpenClaim := { program := "ytcalhmjnoahliaa", sum := "35da9c772d08dab922363540135f14838c41a0951429097775c72c5107e459e7", func := "loop.example/g01208/laws.FnExactHeldAlong", spec := "fnExactHeldAlong", unfollowed := true, recurses := true, apart := false, narrowed := true }
def FnExactHeldAlongUptoSaid : Prop := fnExactHeldAlongUptoRow.holds Try.pinned (OpenSpec.upto fnExactHeldAlongSpec)

/-- 'laws.FnExactSpillsOf', WHERE WHAT IT READS IS OF BULK AT MOST 1048576: true; the input reads as it did. -/
def fnExactSpillsOfUptoRow : OpenClaim := { program := "ytcalhmjnoahliaa", sum := "35da9c772d08dab922363540135f14838c41a0951429097775c72c5107e459e7", func := "loop.example/g01208/laws.FnExactSpillsOf", spec := "fnExactSpillsOf", unfollowed := true, recurses := true, apart := false, narrowed := true }
def FnExactSpillsOfUptoSaid : Prop := fnExactSpillsOfUptoRow.holds Try.pinned (OpenSpec.upto fnExactSpillsOfSpec)

end Rows
end Go.Proofs.Ytcalhmjnoahliaa
