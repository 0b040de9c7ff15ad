/-
  DERIVED. GIVEN WITH THE SEED: THE CARDS: each row of YtmjlmmfhcabnfaaGreatDoorRows.lean that lists a variable, with what it lists TIED to the program's text (the seventh form; the later family's looks); each row that meets fmt, with fmt's text TOLD by the authors' own Lean function (tested against real Go, not proved from fmt's source: count such statements apart). THE CARD IS WHAT COUNTS. Prove the row's statement (the work); the ties are given (YtmjlmmfhcabnfaaGreatDoorTie.lean); close each card by the builder's one call (the guide's Derived/Test/ToyasCard.lean, 'card_holds'). Laid BY PROGRAM, IN A SANDBOX (cutbox-door.mjs). By AI agents, Wed Nov 11 2026. No macro, syntax, notation, axiom, sorry.
-/
import Derived.Test.YtmjlmmfhcabnfaaGreatDoorRows
import GoSem.ClaimSeven
namespace Go.Proofs.YtmjlmmfhcabnfaaGreatDoor
namespace Rows

/-- THE TIED CARD OF 'laws.FnExactRepairsByAdding'. -/
def fnExactRepairsByAddingCard : Claim7 := { stood := { row := fnExactRepairsByAddingRow, standIns := [], harness := (true, "b648ee72b96e67558026c796c61f237241fe6d41709ef2fc8b1c32129bcb1308"), looks := true }, kinds := [], alts := [], laidByText := true, laidKinds := [.data, .data, .data, .data, .sentinel, .sentinel, .widerDeep, .pinned], laidTests := true, laidLooks := .later }
def FnExactRepairsByAddingCardSaid : Prop := Claim7.holds Tryz.pinned (.plain (OpenSpec.ofChange fnExactRepairsByAddingSpec)) fnExactRepairsByAddingCard

/-- THE TIED CARD OF 'laws.FnExactRepairsByMove'. -/
def fnExactRepairsByMoveCard : Claim7 := { stood := { row := fnExactRepairsByMoveRow, standIns := [], harness := (true, "b648ee72b96e67558026c796c61f237241fe6d41709ef2fc8b1c32129bcb1308"), looks := true }, kinds := [], alts := [], laidByText := true, laidKinds := [.data, .data, .data, .data, .sentinel, .sentinel, .widerDeep, .pinned], laidTests := true, laidLooks := .later }
def FnExactRepairsByMoveCardSaid : Prop := Claim7.holds Tryz.pinned (.plain (OpenSpec.ofChange fnExactRepairsByMoveSpec)) fnExactRepairsByMoveCard

/-- THE TIED CARD OF 'laws.FnExactRepairsByTaking'. -/
def fnExactRepairsByTakingCard : Claim7 := { stood := { row := fnExactRepairsByTakingRow, standIns := [], harness := (true, "b648ee72b96e67558026c796c61f237241fe6d41709ef2fc8b1c32129bcb1308"), looks := true }, kinds := [], alts := [], laidByText := true, laidKinds := [.data, .data, .data, .data, .sentinel, .sentinel, .widerDeep, .pinned], laidTests := true, laidLooks := .later }
def FnExactRepairsByTakingCardSaid : Prop := Claim7.holds Tryz.pinned (.plain (OpenSpec.ofChange fnExactRepairsByTakingSpec)) fnExactRepairsByTakingCard

/-- THE TIED CARD OF 'laws.FnExactFalseByMove'. -/
def fnExactFalseByMoveCard : Claim7 := { stood := { row := fnExactFalseByMoveRow, standIns := [], harness := (true, "b648ee72b96e67558026c796c61f237241fe6d41709ef2fc8b1c32129bcb1308"), looks := true }, kinds := [], alts := [], laidByText := true, laidKinds := [.data, .data, .data, .data, .sentinel, .sentinel, .widerDeep, .pinned], laidTests := true, laidLooks := .later }
def FnExactFalseByMoveCardSaid : Prop := Claim7.holds Tryz.pinned (.plain (OpenSpec.ofChange fnExactFalseByMoveSpec)) fnExactFalseByMoveCard

/-- THE SECOND FORM's CARD OF 'laws.FnExactRepairsByAdding'. -/
def fnExactRepairsByAddingUptoCard : Claim7 := { stood := { row := fnExactRepairsByAddingUptoRow, standIns := [], harness := (true, "b648ee72b96e67558026c796c61f237241fe6d41709ef2fc8b1c32129bcb1308"), looks := true }, kinds := [], alts := [], laidByText := true, laidKinds := [.data, .data, .data, .data, .sentinel, .sentinel, .widerDeep, .pinned], laidTests := true, laidLooks := .later }
def FnExactRepairsByAddingUptoCardSaid : Prop := Claim7.holds Tryz.pinned (.plain (OpenSpec.upto fnExactRepairsByAddingSpec)) fnExactRepairsByAddingUptoCard

/-- THE SECOND FORM's CARD OF 'laws.FnExactRepairsByMove'. -/
def fnExactRepairsByMoveUptoCard : Claim7 := { stood := { row := fnExactRepairsByMoveUptoRow, standIns := [], harness := (true, "b648ee72b96e67558026c796c61f237241fe6d41709ef2fc8b1c32129bcb1308"), looks := true }, kinds := [], alts := [], laidByText := true, laidKinds := [.data, .data, .data, .data, .sentinel, .sentinel, .widerDeep, .pinned], laidTests := true, laidLooks := .later }
def FnExactRepairsByMoveUptoCardSaid : Prop := Claim7.holds Tryz.pinned (.plain (OpenSpec.upto fnExactRepairsByMoveSpec)) fnExactRepairsByMoveUptoCard

/-- THE SECOND FORM's CARD OF 'laws.FnExactRepairsByTaking'. -/
def fnExactRepairsByTakingUptoCard : Claim7 := { stood := { row := fnExactRepairsByTakingUptoRow, standIns := [], harness := (true, "b648ee72b96e67558026c796c61f237241fe6d41709ef2fc8b1c32129bcb1308"), looks := true }, kinds := [], alts := [], laidByText := true, laidKinds := [.data, .data, .data, .data, .sentinel, .sentinel, .widerDeep, .pinned], laidTests := true, laidLooks := .later }
def FnExactRepairsByTakingUptoCardSaid : Prop := Claim7.holds Tryz.pinned (.plain (OpenSpec.upto fnExactRepairsByTakingSpec)) fnExactRepairsByTakingUptoCard

/-- THE SECOND FORM's CARD OF 'laws.FnExactFalseByMove'. -/
def fnExactFalseByMoveUptoCard : Claim7 := { stood := { row := fnExactFalseByMoveUptoRow, standIns := [], harness := (true, "b648ee72b96e67558026c796c61f237241fe6d41709ef2fc8b1c32129bcb1308"), looks := true }, kinds := [], alts := [], laidByText := true, laidKinds := [.data, .data, .data, .data, .sentinel, .sentinel, .widerDeep, .pinned], laidTests := true, laidLooks := .later }
def FnExactFalseByMoveUptoCardSaid : Prop := Claim7.holds Tryz.pinned (.plain (OpenSpec.upto fnExactFalseByMoveSpec)) fnExactFalseByMoveUptoCard
end Rows
end Go.Proofs.YtmjlmmfhcabnfaaGreatDoor
