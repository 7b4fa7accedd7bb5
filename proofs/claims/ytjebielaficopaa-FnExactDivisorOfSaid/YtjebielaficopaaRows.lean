/-
  No cell of these rows narrows 'for every input' (looked for: loops, veiled, ifaces, maps, wideKeys, modest, calm, conditions, laid).
  DERIVED. THE GIVEN ROWS OF THIS SEAT. 6 by the template 'for every input the law returns true; each argument reads behind the call as it read before'; 0 by the template 'total and deterministic' (their statements: YtjebielaficopaaTotals.lean).
  GIVEN WITH THE SEED: the statements are not yours to turn. If you find one false, say at which input.
  Laid BY PROGRAM, IN A SANDBOX (cutbox-rows.mjs): the forced cells as the released guide's own fill.sh prints them over the translation f09b50b5b162f1ee… (all of the seat's roots in one cut). By AI agents, Wed Nov 11 2026. No macro, syntax, notation, axiom, sorry.
-/
import Derived.Test.YtjebielaficopaaChecked
import GoSem.Claim
import GoSem.ClaimJoined
import GoSem.ClaimMapViews
import Derived.JoinedTies
import Derived.KernelRfl
namespace Go.Proofs.Ytjebielaficopaa
/- THE CELL 'sum', in the pinned program and in every row, IS THE sha256 OF THE DUMP (.gsa) THAT YtjebielaficopaaProg.lean LOADS. Nothing in Lean hashes anything: it is a label: what it is worth is what the hold of that sum in a sandbox is worth. -/
noncomputable def Try.pinned : Pinned := { name := "ytjebielaficopaa", sum := "f09b50b5b162f1eeb295f777b48d12acb8503b5cf7c5ef587f76289267a383ab", checked := Try.checked }
namespace Rows
def none {H : Type} : Left H := { results := [], args := [] }

/-- 'laws.FnExactAreVessels': WHATEVER THE INPUT: true; the input reads as it did. -/
def fnExactAreVesselsSpec : ChangeSpec := { name := "fnExactAreVessels", fn := fun _ => fun
  | [d] => { results := [.lit (.bool true)], args := [d] }
  | _ => none }
def fnExactAreVesselsRow : OpenClaim := { program := "ytjebielaficopaa", sum := "f09b50b5b162f1eeb295f777b48d12acb8503b5cf7c5ef587f76289267a383ab", func := "loop.example/g01208/laws.FnExactAreVessels", spec := "fnExactAreVessels", unfollowed := true, recurses := true, apart := false }
def FnExactAreVesselsSaid : Prop := fnExactAreVesselsRow.holds Try.pinned (OpenSpec.ofChange fnExactAreVesselsSpec)

/-- ITS FALSE NEIGHBOUR: 'it returns false'. Refute it at one input. -/
def fnExactAreVesselsWrong : ChangeSpec := { name := "fnExactAreVessels", fn := fun _ => fun
  | [d] => { results := [.lit (.bool false)], args := [d] }
  | _ => none }
def FnExactAreVesselsWrongFalsely : Prop := fnExactAreVesselsRow.holds Try.pinned (OpenSpec.ofChange fnExactAreVesselsWrong)

/-- 'laws.FnExactRoomIn': WHATEVER THE INPUT: true; the input reads as it did. -/
def fnExactRoomInSpec : ChangeSpec := { name := "fnExactRoomIn", fn := fun _ => fun
  | [d1, d2] => { results := [.lit (.bool true)], args := [d1, d2] }
  | _ => none }
def fnExactRoomInRow : OpenClaim := { program := "ytjebielaficopaa", sum := "f09b50b5b162f1eeb295f777b48d12acb8503b5cf7c5ef587f76289267a383ab", func := "loop.example/g01208/laws.FnExactRoomIn", spec := "fnExactRoomIn", unfollowed := true, recurses := true, apart := false }
def FnExactRoomInSaid : Prop := fnExactRoomInRow.holds Try.pinned (OpenSpec.ofChange fnExactRoomInSpec)

/-- ITS FALSE NEIGHBOUR: 'it returns false'. Refute it at one input. -/
def fnExactRoomInWrong : ChangeSpec := { name := "fnExactRoomIn", fn := fun _ => fun
  | [d1, d2] => { results := [.lit (.bool false)], args := [d1, d2] }
  | _ => none }
def FnExactRoomInWrongFalsely : Prop := fnExactRoomInRow.holds Try.pinned (OpenSpec.ofChange fnExactRoomInWrong)

/-- 'laws.FnExactIsMove': WHATEVER THE INPUT: true; the input reads as it did. -/
def fnExactIsMoveSpec : ChangeSpec := { name := "fnExactIsMove", fn := fun _ => fun
  | [d1, d2] => { results := [.lit (.bool true)], args := [d1, d2] }
  | _ => none }
def fnExactIsMoveRow : OpenClaim := { program := "ytjebielaficopaa", sum := "f09b50b5b162f1eeb295f777b48d12acb8503b5cf7c5ef587f76289267a383ab", func := "loop.example/g01208/laws.FnExactIsMove", spec := "fnExactIsMove", unfollowed := true, recurses := true, apart := false }
def FnExactIsMoveSaid : Prop := fnExactIsMoveRow.holds Try.pinned (OpenSpec.ofChange fnExactIsMoveSpec)

/-- ITS FALSE NEIGHBOUR: 'it returns false'. Refute it at one input. -/
def fnExactIsMoveWrong : ChangeSpec := { name := "fnExactIsMove", fn := fun _ => fun
  | [d1, d2] => { results := [.lit (.bool false)], args := [d1, d2] }
  | _ => none }
def FnExactIsMoveWrongFalsely : Prop := fnExactIsMoveRow.holds Try.pinned (OpenSpec.ofChange fnExactIsMoveWrong)

/-- 'laws.FnExactSumHeld': WHATEVER THE INPUT: true; the input reads as it did. -/
def fnExactSumHeldSpec : ChangeSpec := { name := "fnExactSumHeld", fn := fun _ => fun
  | [d] => { results := [.lit (.bool true)], args := [d] }
  | _ => none }
def fnExactSumHeldRow : OpenClaim := { program := "ytjebielaficopaa", sum := "f09b50b5b162f1eeb295f777b48d12acb8503b5cf7c5ef587f76289267a383ab", func := "loop.example/g01208/laws.FnExactSumHeld", spec := "fnExactSumHeld", unfollowed := true, recurses := true, apart := false }
def FnExactSumHeldSaid : Prop := fnExactSumHeldRow.holds Try.pinned (OpenSpec.ofChange fnExactSumHeldSpec)

/-- ITS FALSE NEIGHBOUR: 'it returns false'. Refute it at one input. -/
def fnExactSumHeldWrong : ChangeSpec := { name := "fnExactSumHeld", fn := fun _ => fun
  | [d] => { results := [.lit (.bool false)], args := [d] }
  | _ => none }
def FnExactSumHeldWrongFalsely : Prop := fnExactSumHeldRow.holds Try.pinned (OpenSpec.ofChange fnExactSumHeldWrong)

/-- 'laws.FnExactAmountOf': WHATEVER THE INPUT: true; the input reads as it did. -/
def fnExactAmountOfSpec : ChangeSpec := { name := "fnExactAmountOf", fn := fun _ => fun
  | [d1, d2] => { results := [.lit (.bool true)], args := [d1, d2] }
  | _ => none }
def fnExactAmountOfRow : OpenClaim := { program := "ytjebielaficopaa", sum := "f09b50b5b162f1eeb295f777b48d12acb8503b5cf7c5ef587f76289267a383ab", func := "loop.example/g01208/laws.FnExactAmountOf", spec := "fnExactAmountOf", unfollowed := true, recurses := true, apart := false }
def FnExactAmountOfSaid : Prop := fnExactAmountOfRow.holds Try.pinned (OpenSpec.ofChange fnExactAmountOfSpec)

/-- ITS FALSE NEIGHBOUR: 'it returns false'. Refute it at one input. -/
def fnExactAmountOfWrong : ChangeSpec := { name := "fnExactAmountOf", fn := fun _ => fun
  | [d1, d2] => { results := [.lit (.bool false)], args := [d1, d2] }
  | _ => none }
def FnExactAmountOfWrongFalsely : Prop := fnExactAmountOfRow.holds Try.pinned (OpenSpec.ofChange fnExactAmountOfWrong)

/-- 'laws.FnExactDivisorOf': WHATEVER THE INPUT: true; the input reads as it did. -/
def fnExactDivisorOfSpec : ChangeSpec := { name := "fnExactDivisorOf", fn := fun _ => fun
  | [d] => { results := [.lit (.bool true)], args := [d] }
  | _ => none }
def fnExactDivisorOfRow : OpenClaim := { program := "ytjebielaficopaa", sum := "f09b50b5b162f1eeb295f777b48d12acb8503b5cf7c5ef587f76289267a383ab", func := "loop.example/g01208/laws.FnExactDivisorOf", spec := "fnExactDivisorOf", unfollowed := true, recurses := true, apart := false }
def FnExactDivisorOfSaid : Prop := fnExactDivisorOfRow.holds Try.pinned (OpenSpec.ofChange fnExactDivisorOfSpec)

/-- ITS FALSE NEIGHBOUR: 'it returns false'. Refute it at one input. -/
def fnExactDivisorOfWrong : ChangeSpec := { name := "fnExactDivisorOf", fn := fun _ => fun
  | [d] => { results := [.lit (.bool false)], args := [d] }
  | _ => none }
def FnExactDivisorOfWrongFalsely : Prop := fnExactDivisorOfRow.holds Try.pinned (OpenSpec.ofChange fnExactDivisorOfWrong)

/- THE SECOND FORM. 'bulk': how many values and letters a reading holds, each counted each time it is reached (what is shared counts as often as it is met; a slice's spare places count too). A statement '..UptoSaid' is the law's where the arguments, and the package variables that the reading takes, are together of bulk at most 1048576: NARROWER than '..Said'. Prove '..Said' where nothing that the law and all that it calls make is longer than what came in: it says more and counts as full. Else prove '..UptoSaid'. A law counts once. -/
mutual
def uptoBulk {H : Type} : DataW H → Nat
  | .lit (.string bytes) => bytes.length + 1
  | .lit _ => 1
  | .nil => 1
  | .ptr d => uptoBulk d + 1
  | .slice elems spare => uptoBulkAll elems + uptoBulkAll spare + 1
  | .agg parts => uptoBulkAll parts + 1
  | .iface _ d => uptoBulk d + 1
  | .map entries => uptoBulkEntries entries + 1
  | .held _ => 1
def uptoBulkAll {H : Type} : List (DataW H) → Nat
  | [] => 0
  | d :: r => uptoBulk d + uptoBulkAll r
def uptoBulkEntries {H : Type} : List (Lit × DataW H) → Nat
  | [] => 0
  | x :: r => uptoBulkEntry x + uptoBulkEntries r
def uptoBulkEntry {H : Type} : Lit × DataW H → Nat
  | (.string bytes, d) => bytes.length + uptoBulk d + 1
  | (_, d) => uptoBulk d + 1
 end
def uptoSmall : (H : Type) → List (DataW H) → Bool := fun _ ds => decide (uptoBulkAll ds ≤ 1048576)
def OpenSpec.upto (s : _root_.Go.ChangeSpec) : _root_.Go.OpenSpec := { _root_.Go.OpenSpec.ofChange s with cond := some uptoSmall }

/-- 'laws.FnExactAreVessels', WHERE WHAT IT READS IS OF BULK AT MOST 1048576: true; the input reads as it did. -/
def fnExactAreVesselsUptoRow : OpenClaim := { program := "ytjebielaficopaa", sum := "f09b50b5b162f1eeb295f777b48d12acb8503b5cf7c5ef587f76289267a383ab", func := "loop.example/g01208/laws.FnExactAreVessels", spec := "fnExactAreVessels", unfollowed := true, recurses := true, apart := false, narrowed := true }
def FnExactAreVesselsUptoSaid : Prop := fnExactAreVesselsUptoRow.holds Try.pinned (OpenSpec.upto fnExactAreVesselsSpec)

/-- 'laws.FnExactRoomIn', WHERE WHAT IT READS IS OF BULK AT MOST 1048576: true; the input reads as it did. -/
def fnExactRoomInUptoRow : OpenClaim := { program := "ytjebielaficopaa", sum := "f09b50b5b162f1eeb295f777b48d12acb8503b5cf7c5ef587f76289267a383ab", func := "loop.example/g01208/laws.FnExactRoomIn", spec := "fnExactRoomIn", unfollowed := true, recurses := true, apart := false, narrowed := true }
def FnExactRoomInUptoSaid : Prop := fnExactRoomInUptoRow.holds Try.pinned (OpenSpec.upto fnExactRoomInSpec)

/-- 'laws.FnExactIsMove', WHERE WHAT IT READS IS OF BULK AT MOST 1048576: true; the input reads as it did. -/
def fnExactIsMoveUptoRow : OpenClaim := { program := "ytjebielaficopaa", sum := "f09b50b5b162f1eeb295f777b48d12acb8503b5cf7c5ef587f76289267a383ab", func := "loop.example/g01208/laws.FnExactIsMove", spec := "fnExactIsMove", unfollowed := true, recurses := true, apart := false, narrowed := true }
def FnExactIsMoveUptoSaid : Prop := fnExactIsMoveUptoRow.holds Try.pinned (OpenSpec.upto fnExactIsMoveSpec)

/-- 'laws.FnExactSumHeld', WHERE WHAT IT READS IS OF BULK AT MOST 1048576: true; the input reads as it did. -/
def fnExactSumHeldUptoRow : OpenClaim := { program := "ytjebielaficopaa", sum := "f09b50b5b162f1eeb295f777b48d12acb8503b5cf7c5ef587f76289267a383ab", func := "loop.example/g01208/laws.FnExactSumHeld", spec := "fnExactSumHeld", unfollowed := true, recurses := true, apart := false, narrowed := true }
def FnExactSumHeldUptoSaid : Prop := fnExactSumHeldUptoRow.holds Try.pinned (OpenSpec.upto fnExactSumHeldSpec)

/-- 'laws.FnExactAmountOf', WHERE WHAT IT READS IS OF BULK AT MOST 1048576: true; the input reads as it did. -/
def fnExactAmountOfUptoRow : OpenClaim := { program := "ytjebielaficopaa", sum := "f09b50b5b162f1eeb295f777b48d12acb8503b5cf7c5ef587f76289267a383ab", func := "loop.example/g01208/laws.FnExactAmountOf", spec := "fnExactAmountOf", unfollowed := true, recurses := true, apart := false, narrowed := true }
def FnExactAmountOfUptoSaid : Prop := fnExactAmountOfUptoRow.holds Try.pinned (OpenSpec.upto fnExactAmountOfSpec)

/-- 'laws.FnExactDivisorOf', WHERE WHAT IT READS IS OF BULK AT MOST 1048576: true; the input reads as it did. -/
def fnExactDivisorOfUptoRow : OpenClaim := { program := "ytjebielaficopaa", sum := "f09b50b5b162f1eeb295f777b48d12acb8503b5cf7c5ef587f76289267a383ab", func := "loop.example/g01208/laws.FnExactDivisorOf", spec := "fnExactDivisorOf", unfollowed := true, recurses := true, apart := false, narrowed := true }
def FnExactDivisorOfUptoSaid : Prop := fnExactDivisorOfUptoRow.holds Try.pinned (OpenSpec.upto fnExactDivisorOfSpec)

end Rows
end Go.Proofs.Ytjebielaficopaa
