/-
  DERIVED. GIVEN WITH THE SEED: THE CARDS: each row of YtfndfkekihacdaaDoorRows.lean that lists a variable, with what it lists TIED to the program's text (the seventh form; the later family's looks); each row that meets fmt, with fmt's text TOLD by the authors' own Lean function (tested against real Go, not proved from fmt's source: count such statements apart). THE CARD IS WHAT COUNTS. Prove the row's statement (the work); the ties are given (YtfndfkekihacdaaDoorTie.lean); close each card by the builder's one call (the guide's Derived/Test/ToyasCard.lean, 'card_holds'). Laid BY PROGRAM, IN A SANDBOX (cutbox-door.mjs). By AI agents, Wed Nov 11 2026. No macro, syntax, notation, axiom, sorry.
-/
import Derived.Test.YtfndfkekihacdaaDoorRows
import GoSem.ClaimSeven
namespace Go.Proofs.YtfndfkekihacdaaDoor
namespace Rows

/-- THE TIED CARD OF 'sumpterlaw07.PathOrders'. -/
def pathOrdersCard : Claim7 := { stood := { row := pathOrdersRow, standIns := [], harness := (true, "1293dc20c77e154a4b35ec479675a6d4a66f8940656f8aad4c967b7578001e2b"), looks := false }, kinds := [], alts := [], laidByText := true, laidKinds := [.data, .pinned], laidTests := true, laidLooks := .later }
def PathOrdersCardSaid : Prop := Claim7.holds Tryd.pinned (.plain (OpenSpec.ofChange pathOrdersSpec)) pathOrdersCard

/-- THE TIED CARD OF 'sumpterlaw07.PathOrder'. -/
def pathOrderCard : Claim7 := { stood := { row := pathOrderRow, standIns := [], harness := (true, "1293dc20c77e154a4b35ec479675a6d4a66f8940656f8aad4c967b7578001e2b"), looks := false }, kinds := [], alts := [], laidByText := true, laidKinds := [.data, .pinned], laidTests := true, laidLooks := .later }
def PathOrderCardSaid : Prop := Claim7.holds Tryd.pinned (.plain (OpenSpec.ofChange pathOrderSpec)) pathOrderCard

/-- THE TIED CARD OF 'sumpterlaw07.PathBlocks'. -/
def pathBlocksCard : Claim7 := { stood := { row := pathBlocksRow, standIns := [], harness := (true, "1293dc20c77e154a4b35ec479675a6d4a66f8940656f8aad4c967b7578001e2b"), looks := false }, kinds := [], alts := [], laidByText := true, laidKinds := [.data, .pinned], laidTests := true, laidLooks := .later }
def PathBlocksCardSaid : Prop := Claim7.holds Tryd.pinned (.plain (OpenSpec.ofChange pathBlocksSpec)) pathBlocksCard

/-- THE TIED CARD OF 'sumpterlaw07.PathKept'. -/
def pathKeptCard : Claim7 := { stood := { row := pathKeptRow, standIns := [], harness := (true, "1293dc20c77e154a4b35ec479675a6d4a66f8940656f8aad4c967b7578001e2b"), looks := false }, kinds := [], alts := [], laidByText := true, laidKinds := [.data, .pinned], laidTests := true, laidLooks := .later }
def PathKeptCardSaid : Prop := Claim7.holds Tryd.pinned (.plain (OpenSpec.ofChange pathKeptSpec)) pathKeptCard

/-- THE TIED CARD OF 'sumpterlaw07.PathParts'. -/
def pathPartsCard : Claim7 := { stood := { row := pathPartsRow, standIns := [], harness := (true, "1293dc20c77e154a4b35ec479675a6d4a66f8940656f8aad4c967b7578001e2b"), looks := false }, kinds := [], alts := [], laidByText := true, laidKinds := [.data, .pinned], laidTests := true, laidLooks := .later }
def PathPartsCardSaid : Prop := Claim7.holds Tryd.pinned (.plain (OpenSpec.ofChange pathPartsSpec)) pathPartsCard

/-- THE TIED CARD OF 'sumpterlaw07.PathBack'. -/
def pathBackCard : Claim7 := { stood := { row := pathBackRow, standIns := [], harness := (true, "1293dc20c77e154a4b35ec479675a6d4a66f8940656f8aad4c967b7578001e2b"), looks := false }, kinds := [], alts := [], laidByText := true, laidKinds := [.data, .pinned], laidTests := true, laidLooks := .later }
def PathBackCardSaid : Prop := Claim7.holds Tryd.pinned (.plain (OpenSpec.ofChange pathBackSpec)) pathBackCard

/-- THE SECOND FORM's CARD OF 'sumpterlaw07.PathOrders'. -/
def pathOrdersUptoCard : Claim7 := { stood := { row := pathOrdersUptoRow, standIns := [], harness := (true, "1293dc20c77e154a4b35ec479675a6d4a66f8940656f8aad4c967b7578001e2b"), looks := false }, kinds := [], alts := [], laidByText := true, laidKinds := [.data, .pinned], laidTests := true, laidLooks := .later }
def PathOrdersUptoCardSaid : Prop := Claim7.holds Tryd.pinned (.plain (OpenSpec.upto pathOrdersSpec)) pathOrdersUptoCard

/-- THE SECOND FORM's CARD OF 'sumpterlaw07.PathOrder'. -/
def pathOrderUptoCard : Claim7 := { stood := { row := pathOrderUptoRow, standIns := [], harness := (true, "1293dc20c77e154a4b35ec479675a6d4a66f8940656f8aad4c967b7578001e2b"), looks := false }, kinds := [], alts := [], laidByText := true, laidKinds := [.data, .pinned], laidTests := true, laidLooks := .later }
def PathOrderUptoCardSaid : Prop := Claim7.holds Tryd.pinned (.plain (OpenSpec.upto pathOrderSpec)) pathOrderUptoCard

/-- THE SECOND FORM's CARD OF 'sumpterlaw07.PathBlocks'. -/
def pathBlocksUptoCard : Claim7 := { stood := { row := pathBlocksUptoRow, standIns := [], harness := (true, "1293dc20c77e154a4b35ec479675a6d4a66f8940656f8aad4c967b7578001e2b"), looks := false }, kinds := [], alts := [], laidByText := true, laidKinds := [.data, .pinned], laidTests := true, laidLooks := .later }
def PathBlocksUptoCardSaid : Prop := Claim7.holds Tryd.pinned (.plain (OpenSpec.upto pathBlocksSpec)) pathBlocksUptoCard

/-- THE SECOND FORM's CARD OF 'sumpterlaw07.PathKept'. -/
def pathKeptUptoCard : Claim7 := { stood := { row := pathKeptUptoRow, standIns := [], harness := (true, "1293dc20c77e154a4b35ec479675a6d4a66f8940656f8aad4c967b7578001e2b"), looks := false }, kinds := [], alts := [], laidByText := true, laidKinds := [.data, .pinned], laidTests := true, laidLooks := .later }
def PathKeptUptoCardSaid : Prop := Claim7.holds Tryd.pinned (.plain (OpenSpec.upto pathKeptSpec)) pathKeptUptoCard

/-- THE SECOND FORM's CARD OF 'sumpterlaw07.PathParts'. -/
def pathPartsUptoCard : Claim7 := { stood := { row := pathPartsUptoRow, standIns := [], harness := (true, "1293dc20c77e154a4b35ec479675a6d4a66f8940656f8aad4c967b7578001e2b"), looks := false }, kinds := [], alts := [], laidByText := true, laidKinds := [.data, .pinned], laidTests := true, laidLooks := .later }
def PathPartsUptoCardSaid : Prop := Claim7.holds Tryd.pinned (.plain (OpenSpec.upto pathPartsSpec)) pathPartsUptoCard

/-- THE SECOND FORM's CARD OF 'sumpterlaw07.PathBack'. -/
def pathBackUptoCard : Claim7 := { stood := { row := pathBackUptoRow, standIns := [], harness := (true, "1293dc20c77e154a4b35ec479675a6d4a66f8940656f8aad4c967b7578001e2b"), looks := false }, kinds := [], alts := [], laidByText := true, laidKinds := [.data, .pinned], laidTests := true, laidLooks := .later }
def PathBackUptoCardSaid : Prop := Claim7.holds Tryd.pinned (.plain (OpenSpec.upto pathBackSpec)) pathBackUptoCard
end Rows
end Go.Proofs.YtfndfkekihacdaaDoor
