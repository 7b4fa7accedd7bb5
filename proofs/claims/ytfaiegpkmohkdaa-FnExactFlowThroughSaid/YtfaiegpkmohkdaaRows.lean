/-
  No cell of these rows narrows 'for every input' (looked for: loops, veiled, ifaces, maps, wideKeys, modest, calm, conditions, laid).
  DERIVED. THE GIVEN ROWS OF THIS SEAT. 7 by the template 'for every input the law returns true; each argument reads behind the call as it read before'; 0 by the template 'total and deterministic' (their statements: YtfaiegpkmohkdaaTotals.lean).
  GIVEN WITH THE SEED: the statements are not yours to turn. If you find one false, say at which input.
  Laid BY PROGRAM, IN A SANDBOX (cutbox-rows.mjs): the forced cells as the released guide's own fill.sh prints them over the translation a5a10581c76b792c… (all of the seat's roots in one cut). By AI agents, Wed Nov 11 2026. No macro, syntax, notation, axiom, sorry.
-/
import Derived.Test.YtfaiegpkmohkdaaChecked
import GoSem.Claim
import GoSem.ClaimJoined
import GoSem.ClaimMapViews
import Derived.JoinedTies
import Derived.KernelRfl
namespace Go.Proofs.Ytfaiegpkmohkdaa
/- THE CELL 'sum', in the pinned program and in every row, IS THE sha256 OF THE DUMP (.gsa) THAT YtfaiegpkmohkdaaProg.lean LOADS. Nothing in Lean hashes anything: it is a label: what it is worth is what the hold of that sum in a sandbox is worth. -/
noncomputable def Try.pinned : Pinned := { name := "ytfaiegpkmohkdaa", sum := "a5a10581c76b792c420c97050a9ef2c16c4ad7ed7098c1f46a00d434f0d25eaf", checked := Try.checked }
namespace Rows
def none {H : Type} : Left H := { results := [], args := [] }

/-- 'laws.FnExactIsTank': WHATEVER THE INPUT: true; the input reads as it did. -/
def fnExactIsTankSpec : ChangeSpec := { name := "fnExactIsTank", fn := fun _ => fun
  | [d] => { results := [.lit (.bool true)], args := [d] }
  | _ => none }
def fnExactIsTankRow : OpenClaim := { program := "ytfaiegpkmohkdaa", sum := "a5a10581c76b792c420c97050a9ef2c16c4ad7ed7098c1f46a00d434f0d25eaf", func := "loop.example/g01208/laws.FnExactIsTank", spec := "fnExactIsTank", apart := false }
def FnExactIsTankSaid : Prop := fnExactIsTankRow.holds Try.pinned (OpenSpec.ofChange fnExactIsTankSpec)

/-- ITS FALSE NEIGHBOUR: 'it returns false'. Refute it at one input. -/
def fnExactIsTankWrong : ChangeSpec := { name := "fnExactIsTank", fn := fun _ => fun
  | [d] => { results := [.lit (.bool false)], args := [d] }
  | _ => none }
def FnExactIsTankWrongFalsely : Prop := fnExactIsTankRow.holds Try.pinned (OpenSpec.ofChange fnExactIsTankWrong)

/-- 'laws.FnExactLevelOf': WHATEVER THE INPUT: true; the input reads as it did. -/
def fnExactLevelOfSpec : ChangeSpec := { name := "fnExactLevelOf", fn := fun _ => fun
  | [d] => { results := [.lit (.bool true)], args := [d] }
  | _ => none }
def fnExactLevelOfRow : OpenClaim := { program := "ytfaiegpkmohkdaa", sum := "a5a10581c76b792c420c97050a9ef2c16c4ad7ed7098c1f46a00d434f0d25eaf", func := "loop.example/g01208/laws.FnExactLevelOf", spec := "fnExactLevelOf", apart := false }
def FnExactLevelOfSaid : Prop := fnExactLevelOfRow.holds Try.pinned (OpenSpec.ofChange fnExactLevelOfSpec)

/-- ITS FALSE NEIGHBOUR: 'it returns false'. Refute it at one input. -/
def fnExactLevelOfWrong : ChangeSpec := { name := "fnExactLevelOf", fn := fun _ => fun
  | [d] => { results := [.lit (.bool false)], args := [d] }
  | _ => none }
def FnExactLevelOfWrongFalsely : Prop := fnExactLevelOfRow.holds Try.pinned (OpenSpec.ofChange fnExactLevelOfWrong)

/-- 'laws.FnExactAreTanks': WHATEVER THE INPUT: true; the input reads as it did. -/
def fnExactAreTanksSpec : ChangeSpec := { name := "fnExactAreTanks", fn := fun _ => fun
  | [d] => { results := [.lit (.bool true)], args := [d] }
  | _ => none }
def fnExactAreTanksRow : OpenClaim := { program := "ytfaiegpkmohkdaa", sum := "a5a10581c76b792c420c97050a9ef2c16c4ad7ed7098c1f46a00d434f0d25eaf", func := "loop.example/g01208/laws.FnExactAreTanks", spec := "fnExactAreTanks", unfollowed := true, recurses := true, apart := false }
def FnExactAreTanksSaid : Prop := fnExactAreTanksRow.holds Try.pinned (OpenSpec.ofChange fnExactAreTanksSpec)

/-- ITS FALSE NEIGHBOUR: 'it returns false'. Refute it at one input. -/
def fnExactAreTanksWrong : ChangeSpec := { name := "fnExactAreTanks", fn := fun _ => fun
  | [d] => { results := [.lit (.bool false)], args := [d] }
  | _ => none }
def FnExactAreTanksWrongFalsely : Prop := fnExactAreTanksRow.holds Try.pinned (OpenSpec.ofChange fnExactAreTanksWrong)

/-- 'laws.FnExactAddRatios': WHATEVER THE INPUT: true; the input reads as it did. -/
def fnExactAddRatiosSpec : ChangeSpec := { name := "fnExactAddRatios", fn := fun _ => fun
  | [d1, d2] => { results := [.lit (.bool true)], args := [d1, d2] }
  | _ => none }
def fnExactAddRatiosRow : OpenClaim := { program := "ytfaiegpkmohkdaa", sum := "a5a10581c76b792c420c97050a9ef2c16c4ad7ed7098c1f46a00d434f0d25eaf", func := "loop.example/g01208/laws.FnExactAddRatios", spec := "fnExactAddRatios", apart := false }
def FnExactAddRatiosSaid : Prop := fnExactAddRatiosRow.holds Try.pinned (OpenSpec.ofChange fnExactAddRatiosSpec)

/-- ITS FALSE NEIGHBOUR: 'it returns false'. Refute it at one input. -/
def fnExactAddRatiosWrong : ChangeSpec := { name := "fnExactAddRatios", fn := fun _ => fun
  | [d1, d2] => { results := [.lit (.bool false)], args := [d1, d2] }
  | _ => none }
def FnExactAddRatiosWrongFalsely : Prop := fnExactAddRatiosRow.holds Try.pinned (OpenSpec.ofChange fnExactAddRatiosWrong)

/-- 'laws.FnExactFlowThrough': WHATEVER THE INPUT: true; the input reads as it did. -/
def fnExactFlowThroughSpec : ChangeSpec := { name := "fnExactFlowThrough", fn := fun _ => fun
  | [d1, d2, d3] => { results := [.lit (.bool true)], args := [d1, d2, d3] }
  | _ => none }
def fnExactFlowThroughRow : OpenClaim := { program := "ytfaiegpkmohkdaa", sum := "a5a10581c76b792c420c97050a9ef2c16c4ad7ed7098c1f46a00d434f0d25eaf", func := "loop.example/g01208/laws.FnExactFlowThrough", spec := "fnExactFlowThrough", recurses := true, apart := false }
def FnExactFlowThroughSaid : Prop := fnExactFlowThroughRow.holds Try.pinned (OpenSpec.ofChange fnExactFlowThroughSpec)

/-- ITS FALSE NEIGHBOUR: 'it returns false'. Refute it at one input. -/
def fnExactFlowThroughWrong : ChangeSpec := { name := "fnExactFlowThrough", fn := fun _ => fun
  | [d1, d2, d3] => { results := [.lit (.bool false)], args := [d1, d2, d3] }
  | _ => none }
def FnExactFlowThroughWrongFalsely : Prop := fnExactFlowThroughRow.holds Try.pinned (OpenSpec.ofChange fnExactFlowThroughWrong)

/-- 'laws.FnExactPipeLevels': WHATEVER THE INPUT: true; the input reads as it did. -/
def fnExactPipeLevelsSpec : ChangeSpec := { name := "fnExactPipeLevels", fn := fun _ => fun
  | [d1, d2, d3] => { results := [.lit (.bool true)], args := [d1, d2, d3] }
  | _ => none }
def fnExactPipeLevelsRow : OpenClaim := { program := "ytfaiegpkmohkdaa", sum := "a5a10581c76b792c420c97050a9ef2c16c4ad7ed7098c1f46a00d434f0d25eaf", func := "loop.example/g01208/laws.FnExactPipeLevels", spec := "fnExactPipeLevels", recurses := true, apart := false }
def FnExactPipeLevelsSaid : Prop := fnExactPipeLevelsRow.holds Try.pinned (OpenSpec.ofChange fnExactPipeLevelsSpec)

/-- ITS FALSE NEIGHBOUR: 'it returns false'. Refute it at one input. -/
def fnExactPipeLevelsWrong : ChangeSpec := { name := "fnExactPipeLevels", fn := fun _ => fun
  | [d1, d2, d3] => { results := [.lit (.bool false)], args := [d1, d2, d3] }
  | _ => none }
def FnExactPipeLevelsWrongFalsely : Prop := fnExactPipeLevelsRow.holds Try.pinned (OpenSpec.ofChange fnExactPipeLevelsWrong)

/-- 'laws.FnExactWaterBelow': WHATEVER THE INPUT: true; the input reads as it did. -/
def fnExactWaterBelowSpec : ChangeSpec := { name := "fnExactWaterBelow", fn := fun _ => fun
  | [d1, d2] => { results := [.lit (.bool true)], args := [d1, d2] }
  | _ => none }
def fnExactWaterBelowRow : OpenClaim := { program := "ytfaiegpkmohkdaa", sum := "a5a10581c76b792c420c97050a9ef2c16c4ad7ed7098c1f46a00d434f0d25eaf", func := "loop.example/g01208/laws.FnExactWaterBelow", spec := "fnExactWaterBelow", unfollowed := true, recurses := true, apart := false }
def FnExactWaterBelowSaid : Prop := fnExactWaterBelowRow.holds Try.pinned (OpenSpec.ofChange fnExactWaterBelowSpec)

/-- ITS FALSE NEIGHBOUR: 'it returns false'. Refute it at one input. -/
def fnExactWaterBelowWrong : ChangeSpec := { name := "fnExactWaterBelow", fn := fun _ => fun
  | [d1, d2] => { results := [.lit (.bool false)], args := [d1, d2] }
  | _ => none }
def FnExactWaterBelowWrongFalsely : Prop := fnExactWaterBelowRow.holds Try.pinned (OpenSpec.ofChange fnExactWaterBelowWrong)

/- THE SECOND FORM. 'bulk': how many values and letters a reading holds, each counted each time it is reached (what is shared counts as often as it is met; a slice's spare places count too). A statement '..UptoSaid' is the law's where the arguments, and the package variables that the reading takes, are together of bulk at most 1048576: NARROWER than '..Said'. Prove '..Said' where nothing that the law and all that it calls make is longer than what came in: it says more and counts as full. Else prove '..UptoSaid'. A law counts once. -/
mutual
def uptoBulk {H : Type} : DataW H → Nat
  | .lit (.string bytes) => bytes.length + 1
  | .lit _ => 1
  | .nil => 1
  | .ptr d => uptoBulk d + 1
  | .slice elems spare => uptoBulkAll elems + uptoBulkAll spare + 1
  | .agg parts => uptoBulkAll parts + 1
  | .iface _ d => uptoBulk d + 1
  | .map entries => uptoBulkEntries entries + 1
  | .held _ => 1
def uptoBulkAll {H : Type} : List (DataW H) → Nat
  | [] => 0
  | d :: r => uptoBulk d + uptoBulkAll r
def uptoBulkEntries {H : Type} : List (Lit × DataW H) → Nat
  | [] => 0
  | x :: r => uptoBulkEntry x + uptoBulkEntries r
def uptoBulkEntry {H : Type} : Lit × DataW H → Nat
  | (.string bytes, d) => bytes.length + uptoBulk d + 1
  | (_, d) => uptoBulk d + 1
 end
def uptoSmall : (H : Type) → List (DataW H) → Bool := fun _ ds => decide (uptoBulkAll ds ≤ 1048576)
def OpenSpec.upto (s : _root_.Go.ChangeSpec) : _root_.Go.OpenSpec := { _root_.Go.OpenSpec.ofChange s with cond := some uptoSmall }

/-- 'laws.FnExactIsTank', WHERE WHAT IT READS IS OF BULK AT MOST 1048576: true; the input reads as it did. -/
def fnExactIsTankUptoRow : OpenClaim := { program := "ytfaiegpkmohkdaa", sum := "a5a10581c76b792c420c97050a9ef2c16c4ad7ed7098c1f46a00d434f0d25eaf", func := "loop.example/g01208/laws.FnExactIsTank", spec := "fnExactIsTank", apart := false, narrowed := true }
def FnExactIsTankUptoSaid : Prop := fnExactIsTankUptoRow.holds Try.pinned (OpenSpec.upto fnExactIsTankSpec)

/-- 'laws.FnExactLevelOf', WHERE WHAT IT READS IS OF BULK AT MOST 1048576: true; the input reads as it did. -/
def fnExactLevelOfUptoRow : OpenClaim := { program := "ytfaiegpkmohkdaa", sum := "a5a10581c76b792c420c97050a9ef2c16c4ad7ed7098c1f46a00d434f0d25eaf", func := "loop.example/g01208/laws.FnExactLevelOf", spec := "fnExactLevelOf", apart := false, narrowed := true }
def FnExactLevelOfUptoSaid : Prop := fnExactLevelOfUptoRow.holds Try.pinned (OpenSpec.upto fnExactLevelOfSpec)

/-- 'laws.FnExactAreTanks', WHERE WHAT IT READS IS OF BULK AT MOST 1048576: true; the input reads as it did. -/
def fnExactAreTanksUptoRow : OpenClaim := { program := "ytfaiegpkmohkdaa", sum := "a5a10581c76b792c420c97050a9ef2c16c4ad7ed7098c1f46a00d434f0d25eaf", func := "loop.example/g01208/laws.FnExactAreTanks", spec := "fnExactAreTanks", unfollowed := true, recurses := true, apart := false, narrowed := true }
def FnExactAreTanksUptoSaid : Prop := fnExactAreTanksUptoRow.holds Try.pinned (OpenSpec.upto fnExactAreTanksSpec)

/-- 'laws.FnExactAddRatios', WHERE WHAT IT READS IS OF BULK AT MOST 1048576: true; the input reads as it did. -/
def fnExactAddRatiosUptoRow : OpenClaim := { program := "ytfaiegpkmohkdaa", sum := "a5a10581c76b792c420c97050a9ef2c16c4ad7ed7098c1f46a00d434f0d25eaf", func := "loop.example/g01208/laws.FnExactAddRatios", spec := "fnExactAddRatios", apart := false, narrowed := true }
def FnExactAddRatiosUptoSaid : Prop := fnExactAddRatiosUptoRow.holds Try.pinned (OpenSpec.upto fnExactAddRatiosSpec)

/-- 'laws.FnExactFlowThrough', WHERE WHAT IT READS IS OF BULK AT MOST 1048576: true; the input reads as it did. -/
def fnExactFlowThroughUptoRow : OpenClaim := { program := "ytfaiegpkmohkdaa", sum := "a5a10581c76b792c420c97050a9ef2c16c4ad7ed7098c1f46a00d434f0d25eaf", func := "loop.example/g01208/laws.FnExactFlowThrough", spec := "fnExactFlowThrough", recurses := true, apart := false, narrowed := true }
def FnExactFlowThroughUptoSaid : Prop := fnExactFlowThroughUptoRow.holds Try.pinned (OpenSpec.upto fnExactFlowThroughSpec)

/-- 'laws.FnExactPipeLevels', WHERE WHAT IT READS IS OF BULK AT MOST 1048576: true; the input reads as it did. -/
def fnExactPipeLevelsUptoRow : OpenClaim := { program := "ytfaiegpkmohkdaa", sum := "a5a10581c76b792c420c97050a9ef2c16c4ad7ed7098c1f46a00d434f0d25eaf", func := "loop.example/g01208/laws.FnExactPipeLevels", spec := "fnExactPipeLevels", recurses := true, apart := false, narrowed := true }
def FnExactPipeLevelsUptoSaid : Prop := fnExactPipeLevelsUptoRow.holds Try.pinned (OpenSpec.upto fnExactPipeLevelsSpec)

/-- 'laws.FnExactWaterBelow', WHERE WHAT IT READS IS OF BULK AT MOST 1048576: true; the input reads as it did. -/
def fnExactWaterBelowUptoRow : OpenClaim := { program := "ytfaiegpkmohkdaa", sum := "a5a10581c76b792c420c97050a9ef2c16c4ad7ed7098c1f46a00d434f0d25eaf", func := "loop.example/g01208/laws.FnExactWaterBelow", spec := "fnExactWaterBelow", unfollowed := true, recurses := true, apart := false, narrowed := true }
def FnExactWaterBelowUptoSaid : Prop := fnExactWaterBelowUptoRow.holds Try.pinned (OpenSpec.upto fnExactWaterBelowSpec)

end Rows
end Go.Proofs.Ytfaiegpkmohkdaa
