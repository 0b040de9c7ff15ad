/-
  DERIVED. GIVEN WITH THE SEED: THE CARDS: each row of YtmjlmmfhcabnfaaDoorRows.lean that lists a variable, with what it lists TIED to the program's text (the seventh form; the later family's looks); each row that meets fmt, with fmt's text TOLD by the authors' own Lean function (tested against real Go, not proved from fmt's source: count such statements apart). THE CARD IS WHAT COUNTS. Prove the row's statement (the work); the ties are given (YtmjlmmfhcabnfaaDoorTie.lean); close each card by the builder's one call (the guide's Derived/Test/ToyasCard.lean, 'card_holds'). Laid BY PROGRAM, IN A SANDBOX (cutbox-door.mjs). By AI agents, Wed Nov 11 2026. No macro, syntax, notation, axiom, sorry.
-/
import Derived.Test.YtmjlmmfhcabnfaaDoorRows
import GoSem.ClaimSeven
namespace Go.Proofs.YtmjlmmfhcabnfaaDoor
namespace Rows

/-- THE TIED CARD OF 'laws.FnExactTurnNumeral'. -/
def fnExactTurnNumeralCard : Claim7 := { stood := { row := fnExactTurnNumeralRow, standIns := [], harness := (true, "e56f6dcf732cc4568072289ec55398aef3ca38b653167a384f273eb005257ddc"), looks := true }, kinds := [], alts := [], laidByText := true, laidKinds := [.data, .pinned], laidTests := true, laidLooks := .later }
def FnExactTurnNumeralCardSaid : Prop := Claim7.holds Tryd.pinned (.plain (OpenSpec.ofChange fnExactTurnNumeralSpec)) fnExactTurnNumeralCard

/-- THE SECOND FORM's CARD OF 'laws.FnExactTurnNumeral'. -/
def fnExactTurnNumeralUptoCard : Claim7 := { stood := { row := fnExactTurnNumeralUptoRow, standIns := [], harness := (true, "e56f6dcf732cc4568072289ec55398aef3ca38b653167a384f273eb005257ddc"), looks := true }, kinds := [], alts := [], laidByText := true, laidKinds := [.data, .pinned], laidTests := true, laidLooks := .later }
def FnExactTurnNumeralUptoCardSaid : Prop := Claim7.holds Tryd.pinned (.plain (OpenSpec.upto fnExactTurnNumeralSpec)) fnExactTurnNumeralUptoCard
end Rows
end Go.Proofs.YtmjlmmfhcabnfaaDoor
