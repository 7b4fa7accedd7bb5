/-
  DERIVED. GIVEN WITH THE SEED: THE CARDS: each row of YtjebielaficopaaDoorRows.lean that lists a variable, with what it lists TIED to the program's text (the seventh form; the later family's looks); each row that meets fmt, with fmt's text TOLD by the authors' own Lean function (tested against real Go, not proved from fmt's source: count such statements apart). THE CARD IS WHAT COUNTS. Prove the row's statement (the work); the ties are given (YtjebielaficopaaDoorTie.lean); close each card by the builder's one call (the guide's Derived/Test/ToyasCard.lean, 'card_holds'). Laid BY PROGRAM, IN A SANDBOX (cutbox-door.mjs). By AI agents, Wed Nov 11 2026. No macro, syntax, notation, axiom, sorry.
-/
import Derived.Test.YtjebielaficopaaDoorRows
import GoSem.ClaimSeven
namespace Go.Proofs.YtjebielaficopaaDoor
namespace Rows

/-- THE TIED CARD OF 'laws.FnExactMoveText'. -/
def fnExactMoveTextCard : Claim7 := { stood := { row := fnExactMoveTextRow, standIns := [], harness := (true, "9d6504d80c74e40a8fb3493a703ad43824b2de91750f95191921d7dee26d31dc"), looks := false }, kinds := [], alts := [], laidByText := true, laidKinds := [.data, .data, .data], laidTests := true, laidLooks := .later }
def FnExactMoveTextCardSaid : Prop := Claim7.holds Tryd.pinned (.plain (OpenSpec.ofChange fnExactMoveTextSpec)) fnExactMoveTextCard

/-- THE TIED CARD OF 'laws.FnExactParseMove'. -/
def fnExactParseMoveCard : Claim7 := { stood := { row := fnExactParseMoveRow, standIns := [], harness := (true, "9d6504d80c74e40a8fb3493a703ad43824b2de91750f95191921d7dee26d31dc"), looks := false }, kinds := [], alts := [], laidByText := true, laidKinds := [.data, .data, .data], laidTests := true, laidLooks := .later }
def FnExactParseMoveCardSaid : Prop := Claim7.holds Tryd.pinned (.plain (OpenSpec.ofChange fnExactParseMoveSpec)) fnExactParseMoveCard

/-- THE TIED CARD OF 'laws.FnExactVesselsText'. -/
def fnExactVesselsTextCard : Claim7 := { stood := { row := fnExactVesselsTextRow, standIns := [], harness := (true, "9d6504d80c74e40a8fb3493a703ad43824b2de91750f95191921d7dee26d31dc"), looks := false }, kinds := [], alts := [], laidByText := true, laidKinds := [.data, .data, .data], laidTests := true, laidLooks := .later }
def FnExactVesselsTextCardSaid : Prop := Claim7.holds Tryd.pinned (.plain (OpenSpec.ofChange fnExactVesselsTextSpec)) fnExactVesselsTextCard

/-- THE SECOND FORM's CARD OF 'laws.FnExactMoveText'. -/
def fnExactMoveTextUptoCard : Claim7 := { stood := { row := fnExactMoveTextUptoRow, standIns := [], harness := (true, "9d6504d80c74e40a8fb3493a703ad43824b2de91750f95191921d7dee26d31dc"), looks := false }, kinds := [], alts := [], laidByText := true, laidKinds := [.data, .data, .data], laidTests := true, laidLooks := .later }
def FnExactMoveTextUptoCardSaid : Prop := Claim7.holds Tryd.pinned (.plain (OpenSpec.upto fnExactMoveTextSpec)) fnExactMoveTextUptoCard

/-- THE SECOND FORM's CARD OF 'laws.FnExactParseMove'. -/
def fnExactParseMoveUptoCard : Claim7 := { stood := { row := fnExactParseMoveUptoRow, standIns := [], harness := (true, "9d6504d80c74e40a8fb3493a703ad43824b2de91750f95191921d7dee26d31dc"), looks := false }, kinds := [], alts := [], laidByText := true, laidKinds := [.data, .data, .data], laidTests := true, laidLooks := .later }
def FnExactParseMoveUptoCardSaid : Prop := Claim7.holds Tryd.pinned (.plain (OpenSpec.upto fnExactParseMoveSpec)) fnExactParseMoveUptoCard

/-- THE SECOND FORM's CARD OF 'laws.FnExactVesselsText'. -/
def fnExactVesselsTextUptoCard : Claim7 := { stood := { row := fnExactVesselsTextUptoRow, standIns := [], harness := (true, "9d6504d80c74e40a8fb3493a703ad43824b2de91750f95191921d7dee26d31dc"), looks := false }, kinds := [], alts := [], laidByText := true, laidKinds := [.data, .data, .data], laidTests := true, laidLooks := .later }
def FnExactVesselsTextUptoCardSaid : Prop := Claim7.holds Tryd.pinned (.plain (OpenSpec.upto fnExactVesselsTextSpec)) fnExactVesselsTextUptoCard
end Rows
end Go.Proofs.YtjebielaficopaaDoor
