/-
  DERIVED. GIVEN WITH THE SEED: THE CARDS: each row of YtmlkihaoeopobaaDoorRows.lean that lists a variable, with what it lists TIED to the program's text (the seventh form; the later family's looks); each row that meets fmt, with fmt's text TOLD by the authors' own Lean function (tested against real Go, not proved from fmt's source: count such statements apart). THE CARD IS WHAT COUNTS. Prove the row's statement (the work); the ties are given (YtmlkihaoeopobaaDoorTie.lean); close each card by the builder's one call (the guide's Derived/Test/ToyasCard.lean, 'card_holds'). Laid BY PROGRAM, IN A SANDBOX (cutbox-door.mjs). By AI agents, Wed Nov 11 2026. No macro, syntax, notation, axiom, sorry.
-/
import Derived.Test.YtmlkihaoeopobaaDoorRows
import GoSem.ClaimSeven
namespace Go.Proofs.YtmlkihaoeopobaaDoor
namespace Rows

/-- THE TIED CARD OF 'laws.FnExactLessFigure'. -/
def fnExactLessFigureCard : Claim7 := { stood := { row := fnExactLessFigureRow, standIns := [], harness := (true, "c89a6a98db5844d2de7164d260b15e05d3cc4d655d00b73b2f38252d4a31eab7"), looks := false }, kinds := [], alts := [], laidByText := true, laidKinds := [.data], laidTests := true, laidLooks := .later }
def FnExactLessFigureCardSaid : Prop := Claim7.holds Tryd.pinned (.plain (OpenSpec.ofChange fnExactLessFigureSpec)) fnExactLessFigureCard

/-- THE TIED CARD OF 'laws.FnExactMissingFigure'. -/
def fnExactMissingFigureCard : Claim7 := { stood := { row := fnExactMissingFigureRow, standIns := [], harness := (true, "c89a6a98db5844d2de7164d260b15e05d3cc4d655d00b73b2f38252d4a31eab7"), looks := false }, kinds := [], alts := [], laidByText := true, laidKinds := [.data], laidTests := true, laidLooks := .later }
def FnExactMissingFigureCardSaid : Prop := Claim7.holds Tryd.pinned (.plain (OpenSpec.ofChange fnExactMissingFigureSpec)) fnExactMissingFigureCard

/-- THE TIED CARD OF 'laws.FnExactCommonFigure'. -/
def fnExactCommonFigureCard : Claim7 := { stood := { row := fnExactCommonFigureRow, standIns := [], harness := (true, "c89a6a98db5844d2de7164d260b15e05d3cc4d655d00b73b2f38252d4a31eab7"), looks := false }, kinds := [], alts := [], laidByText := true, laidKinds := [.data], laidTests := true, laidLooks := .later }
def FnExactCommonFigureCardSaid : Prop := Claim7.holds Tryd.pinned (.plain (OpenSpec.ofChange fnExactCommonFigureSpec)) fnExactCommonFigureCard

/-- THE TIED CARD OF 'laws.FnExactBorderOf'. -/
def fnExactBorderOfCard : Claim7 := { stood := { row := fnExactBorderOfRow, standIns := [], harness := (true, "c89a6a98db5844d2de7164d260b15e05d3cc4d655d00b73b2f38252d4a31eab7"), looks := false }, kinds := [], alts := [], laidByText := true, laidKinds := [.data], laidTests := true, laidLooks := .later }
def FnExactBorderOfCardSaid : Prop := Claim7.holds Tryd.pinned (.plain (OpenSpec.ofChange fnExactBorderOfSpec)) fnExactBorderOfCard

/-- THE TIED CARD OF 'laws.FnExactMirrorFigure'. -/
def fnExactMirrorFigureCard : Claim7 := { stood := { row := fnExactMirrorFigureRow, standIns := [], harness := (true, "c89a6a98db5844d2de7164d260b15e05d3cc4d655d00b73b2f38252d4a31eab7"), looks := false }, kinds := [], alts := [], laidByText := true, laidKinds := [.data], laidTests := true, laidLooks := .later }
def FnExactMirrorFigureCardSaid : Prop := Claim7.holds Tryd.pinned (.plain (OpenSpec.ofChange fnExactMirrorFigureSpec)) fnExactMirrorFigureCard

/-- THE TIED CARD OF 'laws.FnExactTurnFigure'. -/
def fnExactTurnFigureCard : Claim7 := { stood := { row := fnExactTurnFigureRow, standIns := [], harness := (true, "c89a6a98db5844d2de7164d260b15e05d3cc4d655d00b73b2f38252d4a31eab7"), looks := false }, kinds := [], alts := [], laidByText := true, laidKinds := [.data], laidTests := true, laidLooks := .later }
def FnExactTurnFigureCardSaid : Prop := Claim7.holds Tryd.pinned (.plain (OpenSpec.ofChange fnExactTurnFigureSpec)) fnExactTurnFigureCard

/-- THE TIED CARD OF 'laws.FnExactFigureOfStroke'. -/
def fnExactFigureOfStrokeCard : Claim7 := { stood := { row := fnExactFigureOfStrokeRow, standIns := [], harness := (true, "c89a6a98db5844d2de7164d260b15e05d3cc4d655d00b73b2f38252d4a31eab7"), looks := false }, kinds := [], alts := [], laidByText := true, laidKinds := [.data, .data, .pinned], laidTests := true, laidLooks := .later }
def FnExactFigureOfStrokeCardSaid : Prop := Claim7.holds Tryd.pinned (.plain (OpenSpec.ofChange fnExactFigureOfStrokeSpec)) fnExactFigureOfStrokeCard

/-- THE SECOND FORM's CARD OF 'laws.FnExactLessFigure'. -/
def fnExactLessFigureUptoCard : Claim7 := { stood := { row := fnExactLessFigureUptoRow, standIns := [], harness := (true, "c89a6a98db5844d2de7164d260b15e05d3cc4d655d00b73b2f38252d4a31eab7"), looks := false }, kinds := [], alts := [], laidByText := true, laidKinds := [.data], laidTests := true, laidLooks := .later }
def FnExactLessFigureUptoCardSaid : Prop := Claim7.holds Tryd.pinned (.plain (OpenSpec.upto fnExactLessFigureSpec)) fnExactLessFigureUptoCard

/-- THE SECOND FORM's CARD OF 'laws.FnExactMissingFigure'. -/
def fnExactMissingFigureUptoCard : Claim7 := { stood := { row := fnExactMissingFigureUptoRow, standIns := [], harness := (true, "c89a6a98db5844d2de7164d260b15e05d3cc4d655d00b73b2f38252d4a31eab7"), looks := false }, kinds := [], alts := [], laidByText := true, laidKinds := [.data], laidTests := true, laidLooks := .later }
def FnExactMissingFigureUptoCardSaid : Prop := Claim7.holds Tryd.pinned (.plain (OpenSpec.upto fnExactMissingFigureSpec)) fnExactMissingFigureUptoCard

/-- THE SECOND FORM's CARD OF 'laws.FnExactCommonFigure'. -/
def fnExactCommonFigureUptoCard : Claim7 := { stood := { row := fnExactCommonFigureUptoRow, standIns := [], harness := (true, "c89a6a98db5844d2de7164d260b15e05d3cc4d655d00b73b2f38252d4a31eab7"), looks := false }, kinds := [], alts := [], laidByText := true, laidKinds := [.data], laidTests := true, laidLooks := .later }
def FnExactCommonFigureUptoCardSaid : Prop := Claim7.holds Tryd.pinned (.plain (OpenSpec.upto fnExactCommonFigureSpec)) fnExactCommonFigureUptoCard

/-- THE SECOND FORM's CARD OF 'laws.FnExactBorderOf'. -/
def fnExactBorderOfUptoCard : Claim7 := { stood := { row := fnExactBorderOfUptoRow, standIns := [], harness := (true, "c89a6a98db5844d2de7164d260b15e05d3cc4d655d00b73b2f38252d4a31eab7"), looks := false }, kinds := [], alts := [], laidByText := true, laidKinds := [.data], laidTests := true, laidLooks := .later }
def FnExactBorderOfUptoCardSaid : Prop := Claim7.holds Tryd.pinned (.plain (OpenSpec.upto fnExactBorderOfSpec)) fnExactBorderOfUptoCard

/-- THE SECOND FORM's CARD OF 'laws.FnExactMirrorFigure'. -/
def fnExactMirrorFigureUptoCard : Claim7 := { stood := { row := fnExactMirrorFigureUptoRow, standIns := [], harness := (true, "c89a6a98db5844d2de7164d260b15e05d3cc4d655d00b73b2f38252d4a31eab7"), looks := false }, kinds := [], alts := [], laidByText := true, laidKinds := [.data], laidTests := true, laidLooks := .later }
def FnExactMirrorFigureUptoCardSaid : Prop := Claim7.holds Tryd.pinned (.plain (OpenSpec.upto fnExactMirrorFigureSpec)) fnExactMirrorFigureUptoCard

/-- THE SECOND FORM's CARD OF 'laws.FnExactTurnFigure'. -/
def fnExactTurnFigureUptoCard : Claim7 := { stood := { row := fnExactTurnFigureUptoRow, standIns := [], harness := (true, "c89a6a98db5844d2de7164d260b15e05d3cc4d655d00b73b2f38252d4a31eab7"), looks := false }, kinds := [], alts := [], laidByText := true, laidKinds := [.data], laidTests := true, laidLooks := .later }
def FnExactTurnFigureUptoCardSaid : Prop := Claim7.holds Tryd.pinned (.plain (OpenSpec.upto fnExactTurnFigureSpec)) fnExactTurnFigureUptoCard

/-- THE SECOND FORM's CARD OF 'laws.FnExactFigureOfStroke'. -/
def fnExactFigureOfStrokeUptoCard : Claim7 := { stood := { row := fnExactFigureOfStrokeUptoRow, standIns := [], harness := (true, "c89a6a98db5844d2de7164d260b15e05d3cc4d655d00b73b2f38252d4a31eab7"), looks := false }, kinds := [], alts := [], laidByText := true, laidKinds := [.data, .data, .pinned], laidTests := true, laidLooks := .later }
def FnExactFigureOfStrokeUptoCardSaid : Prop := Claim7.holds Tryd.pinned (.plain (OpenSpec.upto fnExactFigureOfStrokeSpec)) fnExactFigureOfStrokeUptoCard
end Rows
end Go.Proofs.YtmlkihaoeopobaaDoor
