/-
  No cell of these rows narrows 'for every input' (looked for: loops, veiled, ifaces, maps, wideKeys, modest, calm, conditions, laid).
  DERIVED. THE GIVEN ROWS OF THIS SEAT. 11 by the template 'for every input the law returns true; each argument reads behind the call as it read before'; 0 by the template 'total and deterministic' (their statements: YtbpkfdclplcbaaaTotals.lean).
  GIVEN WITH THE SEED: the statements are not yours to turn. If you find one false, say at which input.
  Laid BY PROGRAM, IN A SANDBOX (cutbox-rows.mjs): the forced cells as the released guide's own fill.sh prints them over the translation 28eeda91ec3ecaac… (all of the seat's roots in one cut). By AI agents, Wed Nov 11 2026. No macro, syntax, notation, axiom, sorry.
-/
import Derived.Test.YtbpkfdclplcbaaaChecked
import GoSem.Claim
import GoSem.ClaimJoined
import GoSem.ClaimMapViews
import Derived.JoinedTies
import Derived.KernelRfl
namespace Go.Proofs.Ytbpkfdclplcbaaa
/- THE CELL 'sum', in the pinned program and in every row, IS THE sha256 OF THE DUMP (.gsa) THAT YtbpkfdclplcbaaaProg.lean LOADS. Nothing in Lean hashes anything: it is a label: what it is worth is what the hold of that sum in a sandbox is worth. -/
noncomputable def Try.pinned : Pinned := { name := "ytbpkfdclplcbaaa", sum := "28eeda91ec3ecaac62312858563f91bd3072fc542335cd89b31db08bb4b26d4c", checked := Try.checked }
namespace Rows
def none {H : Type} : Left H := { results := [], args := [] }

/-- 'laws.FnExactConstants': WHATEVER THE INPUT: true; the input reads as it did. -/
def fnExactConstantsSpec : ChangeSpec := { name := "fnExactConstants", fn := fun _ => fun
  | [] => { results := [.lit (.bool true)], args := [] }
  | _ => none }
def fnExactConstantsRow : OpenClaim := { program := "ytbpkfdclplcbaaa", sum := "28eeda91ec3ecaac62312858563f91bd3072fc542335cd89b31db08bb4b26d4c", func := "loop.example/g01208/laws.FnExactConstants", spec := "fnExactConstants", plainKeys := false, apart := false }
def FnExactConstantsSaid : Prop := fnExactConstantsRow.holds Try.pinned (OpenSpec.ofChange fnExactConstantsSpec)

/-- ITS FALSE NEIGHBOUR: 'it returns false'. Refute it at one input. -/
def fnExactConstantsWrong : ChangeSpec := { name := "fnExactConstants", fn := fun _ => fun
  | [] => { results := [.lit (.bool false)], args := [] }
  | _ => none }
def FnExactConstantsWrongFalsely : Prop := fnExactConstantsRow.holds Try.pinned (OpenSpec.ofChange fnExactConstantsWrong)

/-- 'laws.FnExactIsSiphon': WHATEVER THE INPUT: true; the input reads as it did. -/
def fnExactIsSiphonSpec : ChangeSpec := { name := "fnExactIsSiphon", fn := fun _ => fun
  | [d] => { results := [.lit (.bool true)], args := [d] }
  | _ => none }
def fnExactIsSiphonRow : OpenClaim := { program := "ytbpkfdclplcbaaa", sum := "28eeda91ec3ecaac62312858563f91bd3072fc542335cd89b31db08bb4b26d4c", func := "loop.example/g01208/laws.FnExactIsSiphon", spec := "fnExactIsSiphon", plainKeys := false, apart := false }
def FnExactIsSiphonSaid : Prop := fnExactIsSiphonRow.holds Try.pinned (OpenSpec.ofChange fnExactIsSiphonSpec)

/-- ITS FALSE NEIGHBOUR: 'it returns false'. Refute it at one input. -/
def fnExactIsSiphonWrong : ChangeSpec := { name := "fnExactIsSiphon", fn := fun _ => fun
  | [d] => { results := [.lit (.bool false)], args := [d] }
  | _ => none }
def FnExactIsSiphonWrongFalsely : Prop := fnExactIsSiphonRow.holds Try.pinned (OpenSpec.ofChange fnExactIsSiphonWrong)

/-- 'laws.FnExactCapacityOf': WHATEVER THE INPUT: true; the input reads as it did. -/
def fnExactCapacityOfSpec : ChangeSpec := { name := "fnExactCapacityOf", fn := fun _ => fun
  | [d] => { results := [.lit (.bool true)], args := [d] }
  | _ => none }
def fnExactCapacityOfRow : OpenClaim := { program := "ytbpkfdclplcbaaa", sum := "28eeda91ec3ecaac62312858563f91bd3072fc542335cd89b31db08bb4b26d4c", func := "loop.example/g01208/laws.FnExactCapacityOf", spec := "fnExactCapacityOf", plainKeys := false, apart := false }
def FnExactCapacityOfSaid : Prop := fnExactCapacityOfRow.holds Try.pinned (OpenSpec.ofChange fnExactCapacityOfSpec)

/-- ITS FALSE NEIGHBOUR: 'it returns false'. Refute it at one input. -/
def fnExactCapacityOfWrong : ChangeSpec := { name := "fnExactCapacityOf", fn := fun _ => fun
  | [d] => { results := [.lit (.bool false)], args := [d] }
  | _ => none }
def FnExactCapacityOfWrongFalsely : Prop := fnExactCapacityOfRow.holds Try.pinned (OpenSpec.ofChange fnExactCapacityOfWrong)

/-- 'laws.FnExactFirstRun': WHATEVER THE INPUT: true; the input reads as it did. -/
def fnExactFirstRunSpec : ChangeSpec := { name := "fnExactFirstRun", fn := fun _ => fun
  | [d1, d2] => { results := [.lit (.bool true)], args := [d1, d2] }
  | _ => none }
def fnExactFirstRunRow : OpenClaim := { program := "ytbpkfdclplcbaaa", sum := "28eeda91ec3ecaac62312858563f91bd3072fc542335cd89b31db08bb4b26d4c", func := "loop.example/g01208/laws.FnExactFirstRun", spec := "fnExactFirstRun", plainKeys := false, apart := false }
def FnExactFirstRunSaid : Prop := fnExactFirstRunRow.holds Try.pinned (OpenSpec.ofChange fnExactFirstRunSpec)

/-- ITS FALSE NEIGHBOUR: 'it returns false'. Refute it at one input. -/
def fnExactFirstRunWrong : ChangeSpec := { name := "fnExactFirstRun", fn := fun _ => fun
  | [d1, d2] => { results := [.lit (.bool false)], args := [d1, d2] }
  | _ => none }
def FnExactFirstRunWrongFalsely : Prop := fnExactFirstRunRow.holds Try.pinned (OpenSpec.ofChange fnExactFirstRunWrong)

/-- 'laws.FnExactIsSiphonLevel': WHATEVER THE INPUT: true; the input reads as it did. -/
def fnExactIsSiphonLevelSpec : ChangeSpec := { name := "fnExactIsSiphonLevel", fn := fun _ => fun
  | [d1, d2] => { results := [.lit (.bool true)], args := [d1, d2] }
  | _ => none }
def fnExactIsSiphonLevelRow : OpenClaim := { program := "ytbpkfdclplcbaaa", sum := "28eeda91ec3ecaac62312858563f91bd3072fc542335cd89b31db08bb4b26d4c", func := "loop.example/g01208/laws.FnExactIsSiphonLevel", spec := "fnExactIsSiphonLevel", plainKeys := false, apart := false }
def FnExactIsSiphonLevelSaid : Prop := fnExactIsSiphonLevelRow.holds Try.pinned (OpenSpec.ofChange fnExactIsSiphonLevelSpec)

/-- ITS FALSE NEIGHBOUR: 'it returns false'. Refute it at one input. -/
def fnExactIsSiphonLevelWrong : ChangeSpec := { name := "fnExactIsSiphonLevel", fn := fun _ => fun
  | [d1, d2] => { results := [.lit (.bool false)], args := [d1, d2] }
  | _ => none }
def FnExactIsSiphonLevelWrongFalsely : Prop := fnExactIsSiphonLevelRow.holds Try.pinned (OpenSpec.ofChange fnExactIsSiphonLevelWrong)

/-- 'laws.FnExactTickSiphon': WHATEVER THE INPUT: true; the input reads as it did. -/
def fnExactTickSiphonSpec : ChangeSpec := { name := "fnExactTickSiphon", fn := fun _ => fun
  | [d1, d2, d3] => { results := [.lit (.bool true)], args := [d1, d2, d3] }
  | _ => none }
def fnExactTickSiphonRow : OpenClaim := { program := "ytbpkfdclplcbaaa", sum := "28eeda91ec3ecaac62312858563f91bd3072fc542335cd89b31db08bb4b26d4c", func := "loop.example/g01208/laws.FnExactTickSiphon", spec := "fnExactTickSiphon", plainKeys := false, apart := false }
def FnExactTickSiphonSaid : Prop := fnExactTickSiphonRow.holds Try.pinned (OpenSpec.ofChange fnExactTickSiphonSpec)

/-- ITS FALSE NEIGHBOUR: 'it returns false'. Refute it at one input. -/
def fnExactTickSiphonWrong : ChangeSpec := { name := "fnExactTickSiphon", fn := fun _ => fun
  | [d1, d2, d3] => { results := [.lit (.bool false)], args := [d1, d2, d3] }
  | _ => none }
def FnExactTickSiphonWrongFalsely : Prop := fnExactTickSiphonRow.holds Try.pinned (OpenSpec.ofChange fnExactTickSiphonWrong)

/-- 'laws.FnExactPeriodOfSiphon': WHATEVER THE INPUT: true; the input reads as it did. -/
def fnExactPeriodOfSiphonSpec : ChangeSpec := { name := "fnExactPeriodOfSiphon", fn := fun _ => fun
  | [d1, d2] => { results := [.lit (.bool true)], args := [d1, d2] }
  | _ => none }
def fnExactPeriodOfSiphonRow : OpenClaim := { program := "ytbpkfdclplcbaaa", sum := "28eeda91ec3ecaac62312858563f91bd3072fc542335cd89b31db08bb4b26d4c", func := "loop.example/g01208/laws.FnExactPeriodOfSiphon", spec := "fnExactPeriodOfSiphon", plainKeys := false, apart := false }
def FnExactPeriodOfSiphonSaid : Prop := fnExactPeriodOfSiphonRow.holds Try.pinned (OpenSpec.ofChange fnExactPeriodOfSiphonSpec)

/-- ITS FALSE NEIGHBOUR: 'it returns false'. Refute it at one input. -/
def fnExactPeriodOfSiphonWrong : ChangeSpec := { name := "fnExactPeriodOfSiphon", fn := fun _ => fun
  | [d1, d2] => { results := [.lit (.bool false)], args := [d1, d2] }
  | _ => none }
def FnExactPeriodOfSiphonWrongFalsely : Prop := fnExactPeriodOfSiphonRow.holds Try.pinned (OpenSpec.ofChange fnExactPeriodOfSiphonWrong)

/-- 'laws.FnExactNeverStops': WHATEVER THE INPUT: true; the input reads as it did. -/
def fnExactNeverStopsSpec : ChangeSpec := { name := "fnExactNeverStops", fn := fun _ => fun
  | [d1, d2] => { results := [.lit (.bool true)], args := [d1, d2] }
  | _ => none }
def fnExactNeverStopsRow : OpenClaim := { program := "ytbpkfdclplcbaaa", sum := "28eeda91ec3ecaac62312858563f91bd3072fc542335cd89b31db08bb4b26d4c", func := "loop.example/g01208/laws.FnExactNeverStops", spec := "fnExactNeverStops", unfollowed := true, recurses := true, plainKeys := false, apart := false }
def FnExactNeverStopsSaid : Prop := fnExactNeverStopsRow.holds Try.pinned (OpenSpec.ofChange fnExactNeverStopsSpec)

/-- ITS FALSE NEIGHBOUR: 'it returns false'. Refute it at one input. -/
def fnExactNeverStopsWrong : ChangeSpec := { name := "fnExactNeverStops", fn := fun _ => fun
  | [d1, d2] => { results := [.lit (.bool false)], args := [d1, d2] }
  | _ => none }
def FnExactNeverStopsWrongFalsely : Prop := fnExactNeverStopsRow.holds Try.pinned (OpenSpec.ofChange fnExactNeverStopsWrong)

/-- 'laws.FnExactSpiltInPeriod': WHATEVER THE INPUT: true; the input reads as it did. -/
def fnExactSpiltInPeriodSpec : ChangeSpec := { name := "fnExactSpiltInPeriod", fn := fun _ => fun
  | [d1, d2] => { results := [.lit (.bool true)], args := [d1, d2] }
  | _ => none }
def fnExactSpiltInPeriodRow : OpenClaim := { program := "ytbpkfdclplcbaaa", sum := "28eeda91ec3ecaac62312858563f91bd3072fc542335cd89b31db08bb4b26d4c", func := "loop.example/g01208/laws.FnExactSpiltInPeriod", spec := "fnExactSpiltInPeriod", plainKeys := false, apart := false }
def FnExactSpiltInPeriodSaid : Prop := fnExactSpiltInPeriodRow.holds Try.pinned (OpenSpec.ofChange fnExactSpiltInPeriodSpec)

/-- ITS FALSE NEIGHBOUR: 'it returns false'. Refute it at one input. -/
def fnExactSpiltInPeriodWrong : ChangeSpec := { name := "fnExactSpiltInPeriod", fn := fun _ => fun
  | [d1, d2] => { results := [.lit (.bool false)], args := [d1, d2] }
  | _ => none }
def FnExactSpiltInPeriodWrongFalsely : Prop := fnExactSpiltInPeriodRow.holds Try.pinned (OpenSpec.ofChange fnExactSpiltInPeriodWrong)

/-- 'laws.FnExactPulseOf': WHATEVER THE INPUT: true; the input reads as it did. -/
def fnExactPulseOfSpec : ChangeSpec := { name := "fnExactPulseOf", fn := fun _ => fun
  | [d1, d2] => { results := [.lit (.bool true)], args := [d1, d2] }
  | _ => none }
def fnExactPulseOfRow : OpenClaim := { program := "ytbpkfdclplcbaaa", sum := "28eeda91ec3ecaac62312858563f91bd3072fc542335cd89b31db08bb4b26d4c", func := "loop.example/g01208/laws.FnExactPulseOf", spec := "fnExactPulseOf", plainKeys := false, apart := false }
def FnExactPulseOfSaid : Prop := fnExactPulseOfRow.holds Try.pinned (OpenSpec.ofChange fnExactPulseOfSpec)

/-- ITS FALSE NEIGHBOUR: 'it returns false'. Refute it at one input. -/
def fnExactPulseOfWrong : ChangeSpec := { name := "fnExactPulseOf", fn := fun _ => fun
  | [d1, d2] => { results := [.lit (.bool false)], args := [d1, d2] }
  | _ => none }
def FnExactPulseOfWrongFalsely : Prop := fnExactPulseOfRow.holds Try.pinned (OpenSpec.ofChange fnExactPulseOfWrong)

/-- 'laws.FnExactPeriodOfChain': WHATEVER THE INPUT: true; the input reads as it did. -/
def fnExactPeriodOfChainSpec : ChangeSpec := { name := "fnExactPeriodOfChain", fn := fun _ => fun
  | [d1, d2] => { results := [.lit (.bool true)], args := [d1, d2] }
  | _ => none }
def fnExactPeriodOfChainRow : OpenClaim := { program := "ytbpkfdclplcbaaa", sum := "28eeda91ec3ecaac62312858563f91bd3072fc542335cd89b31db08bb4b26d4c", func := "loop.example/g01208/laws.FnExactPeriodOfChain", spec := "fnExactPeriodOfChain", unfollowed := true, recurses := true, plainKeys := false, apart := false }
def FnExactPeriodOfChainSaid : Prop := fnExactPeriodOfChainRow.holds Try.pinned (OpenSpec.ofChange fnExactPeriodOfChainSpec)

/-- ITS FALSE NEIGHBOUR: 'it returns false'. Refute it at one input. -/
def fnExactPeriodOfChainWrong : ChangeSpec := { name := "fnExactPeriodOfChain", fn := fun _ => fun
  | [d1, d2] => { results := [.lit (.bool false)], args := [d1, d2] }
  | _ => none }
def FnExactPeriodOfChainWrongFalsely : Prop := fnExactPeriodOfChainRow.holds Try.pinned (OpenSpec.ofChange fnExactPeriodOfChainWrong)

/- THE SECOND FORM. 'bulk': how many values and letters a reading holds, each counted each time it is reached (what is shared counts as often as it is met; a slice's spare places count too). A statement '..UptoSaid' is the law's where the arguments, and the package variables that the reading takes, are together of bulk at most 1048576: NARROWER than '..Said'. Prove '..Said' where nothing that the law and all that it calls make is longer than what came in: it says more and counts as full. Else prove '..UptoSaid'. A law counts once. -/
mutual
def uptoBulk {H : Type} : DataW H → Nat
  | .lit (.string bytes) => bytes.length + 1
  | .lit _ => 1
  | .nil => 1
  | .ptr d => uptoBulk d + 1
  | .slice elems spare => uptoBulkAll elems + uptoBulkAll spare + 1
  | .agg parts => uptoBulkAll parts + 1
  | .iface _ d => uptoBulk d + 1
  | .map entries => uptoBulkEntries entries + 1
  | .held _ => 1
def uptoBulkAll {H : Type} : List (DataW H) → Nat
  | [] => 0
  | d :: r => uptoBulk d + uptoBulkAll r
def uptoBulkEntries {H : Type} : List (Lit × DataW H) → Nat
  | [] => 0
  | x :: r => uptoBulkEntry x + uptoBulkEntries r
def uptoBulkEntry {H : Type} : Lit × DataW H → Nat
  | (.string bytes, d) => bytes.length + uptoBulk d + 1
  | (_, d) => uptoBulk d + 1
 end
def uptoSmall : (H : Type) → List (DataW H) → Bool := fun _ ds => decide (uptoBulkAll ds ≤ 1048576)
def OpenSpec.upto (s : _root_.Go.ChangeSpec) : _root_.Go.OpenSpec := { _root_.Go.OpenSpec.ofChange s with cond := some uptoSmall }

/-- 'laws.FnExactConstants', WHERE WHAT IT READS IS OF BULK AT MOST 1048576: true; the input reads as it did. -/
def fnExactConstantsUptoRow : OpenClaim := { program := "ytbpkfdclplcbaaa", sum := "28eeda91ec3ecaac62312858563f91bd3072fc542335cd89b31db08bb4b26d4c", func := "loop.example/g01208/laws.FnExactConstants", spec := "fnExactConstants", plainKeys := false, apart := false, narrowed := true }
def FnExactConstantsUptoSaid : Prop := fnExactConstantsUptoRow.holds Try.pinned (OpenSpec.upto fnExactConstantsSpec)

/-- 'laws.FnExactIsSiphon', WHERE WHAT IT READS IS OF BULK AT MOST 1048576: true; the input reads as it did. -/
def fnExactIsSiphonUptoRow : OpenClaim := { program := "ytbpkfdclplcbaaa", sum := "28eeda91ec3ecaac62312858563f91bd3072fc542335cd89b31db08bb4b26d4c", func := "loop.example/g01208/laws.FnExactIsSiphon", spec := "fnExactIsSiphon", plainKeys := false, apart := false, narrowed := true }
def FnExactIsSiphonUptoSaid : Prop := fnExactIsSiphonUptoRow.holds Try.pinned (OpenSpec.upto fnExactIsSiphonSpec)

/-- 'laws.FnExactCapacityOf', WHERE WHAT IT READS IS OF BULK AT MOST 1048576: true; the input reads as it did. -/
def fnExactCapacityOfUptoRow : OpenClaim := { program := "ytbpkfdclplcbaaa", sum := "28eeda91ec3ecaac62312858563f91bd3072fc542335cd89b31db08bb4b26d4c", func := "loop.example/g01208/laws.FnExactCapacityOf", spec := "fnExactCapacityOf", plainKeys := false, apart := false, narrowed := true }
def FnExactCapacityOfUptoSaid : Prop := fnExactCapacityOfUptoRow.holds Try.pinned (OpenSpec.upto fnExactCapacityOfSpec)

/-- 'laws.FnExactFirstRun', WHERE WHAT IT READS IS OF BULK AT MOST 1048576: true; the input reads as it did. -/
def fnExactFirstRunUptoRow : OpenClaim := { program := "ytbpkfdclplcbaaa", sum := "28eeda91ec3ecaac62312858563f91bd3072fc542335cd89b31db08bb4b26d4c", func := "loop.example/g01208/laws.FnExactFirstRun", spec := "fnExactFirstRun", plainKeys := false, apart := false, narrowed := true }
def FnExactFirstRunUptoSaid : Prop := fnExactFirstRunUptoRow.holds Try.pinned (OpenSpec.upto fnExactFirstRunSpec)

/-- 'laws.FnExactIsSiphonLevel', WHERE WHAT IT READS IS OF BULK AT MOST 1048576: true; the input reads as it did. -/
def fnExactIsSiphonLevelUptoRow : OpenClaim := { program := "ytbpkfdclplcbaaa", sum := "28eeda91ec3ecaac62312858563f91bd3072fc542335cd89b31db08bb4b26d4c", func := "loop.example/g01208/laws.FnExactIsSiphonLevel", spec := "fnExactIsSiphonLevel", plainKeys := false, apart := false, narrowed := true }
def FnExactIsSiphonLevelUptoSaid : Prop := fnExactIsSiphonLevelUptoRow.holds Try.pinned (OpenSpec.upto fnExactIsSiphonLevelSpec)

/-- 'laws.FnExactTickSiphon', WHERE WHAT IT READS IS OF BULK AT MOST 1048576: true; the input reads as it did. -/
def fnExactTickSiphonUptoRow : OpenClaim := { program := "ytbpkfdclplcbaaa", sum := "28eeda91ec3ecaac62312858563f91bd3072fc542335cd89b31db08bb4b26d4c", func := "loop.example/g01208/laws.FnExactTickSiphon", spec := "fnExactTickSiphon", plainKeys := false, apart := false, narrowed := true }
def FnExactTickSiphonUptoSaid : Prop := fnExactTickSiphonUptoRow.holds Try.pinned (OpenSpec.upto fnExactTickSiphonSpec)

/-- 'laws.FnExactPeriodOfSiphon', WHERE WHAT IT READS IS OF BULK AT MOST 1048576: true; the input reads as it did. -/
def fnExactPeriodOfSiphonUptoRow : OpenClaim := { program := "ytbpkfdclplcbaaa", sum := "28eeda91ec3ecaac62312858563f91bd3072fc542335cd89b31db08bb4b26d4c", func := "loop.example/g01208/laws.FnExactPeriodOfSiphon", spec := "fnExactPeriodOfSiphon", plainKeys := false, apart := false, narrowed := true }
def FnExactPeriodOfSiphonUptoSaid : Prop := fnExactPeriodOfSiphonUptoRow.holds Try.pinned (OpenSpec.upto fnExactPeriodOfSiphonSpec)

/-- 'laws.FnExactNeverStops', WHERE WHAT IT READS IS OF BULK AT MOST 1048576: true; the input reads as it did. -/
def fnExactNeverStopsUptoRow : OpenClaim := { program := "ytbpkfdclplcbaaa", sum := "28eeda91ec3ecaac62312858563f91bd3072fc542335cd89b31db08bb4b26d4c", func := "loop.example/g01208/laws.FnExactNeverStops", spec := "fnExactNeverStops", unfollowed := true, recurses := true, plainKeys := false, apart := false, narrowed := true }
def FnExactNeverStopsUptoSaid : Prop := fnExactNeverStopsUptoRow.holds Try.pinned (OpenSpec.upto fnExactNeverStopsSpec)

/-- 'laws.FnExactSpiltInPeriod', WHERE WHAT IT READS IS OF BULK AT MOST 1048576: true; the input reads as it did. -/
def fnExactSpiltInPeriodUptoRow : OpenClaim := { program := "ytbpkfdclplcbaaa", sum := "28eeda91ec3ecaac62312858563f91bd3072fc542335cd89b31db08bb4b26d4c", func := "loop.example/g01208/laws.FnExactSpiltInPeriod", spec := "fnExactSpiltInPeriod", plainKeys := false, apart := false, narrowed := true }
def FnExactSpiltInPeriodUptoSaid : Prop := fnExactSpiltInPeriodUptoRow.holds Try.pinned (OpenSpec.upto fnExactSpiltInPeriodSpec)

/-- 'laws.FnExactPulseOf', WHERE WHAT IT READS IS OF BULK AT MOST 1048576: true; the input reads as it did. -/
def fnExactPulseOfUptoRow : OpenClaim := { program := "ytbpkfdclplcbaaa", sum := "28eeda91ec3ecaac62312858563f91bd3072fc542335cd89b31db08bb4b26d4c", func := "loop.example/g01208/laws.FnExactPulseOf", spec := "fnExactPulseOf", plainKeys := false, apart := false, narrowed := true }
def FnExactPulseOfUptoSaid : Prop := fnExactPulseOfUptoRow.holds Try.pinned (OpenSpec.upto fnExactPulseOfSpec)

/-- 'laws.FnExactPeriodOfChain', WHERE WHAT IT READS IS OF BULK AT MOST 1048576: true; the input reads as it did. -/
def fnExactPeriodOfChainUptoRow : OpenClaim := { program := "ytbpkfdclplcbaaa", sum := "28eeda91ec3ecaac62312858563f91bd3072fc542335cd89b31db08bb4b26d4c", func := "loop.example/g01208/laws.FnExactPeriodOfChain", spec := "fnExactPeriodOfChain", unfollowed := true, recurses := true, plainKeys := false, apart := false, narrowed := true }
def FnExactPeriodOfChainUptoSaid : Prop := fnExactPeriodOfChainUptoRow.holds Try.pinned (OpenSpec.upto fnExactPeriodOfChainSpec)

end Rows
end Go.Proofs.Ytbpkfdclplcbaaa
