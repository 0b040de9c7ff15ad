/-
  DERIVED. GIVEN WITH THE SEED: THE CARDS: each row of YtkllomnelknpaaaDoorRows.lean that lists a variable, with what it lists TIED to the program's text (the seventh form; the later family's looks); each row that meets fmt, with fmt's text TOLD by the authors' own Lean function (tested against real Go, not proved from fmt's source: count such statements apart). THE CARD IS WHAT COUNTS. Prove the row's statement (the work); the ties are given (YtkllomnelknpaaaDoorTie.lean); close each card by the builder's one call (the guide's Derived/Test/ToyasCard.lean, 'card_holds'). Laid BY PROGRAM, IN A SANDBOX (cutbox-door.mjs). By AI agents, Wed Nov 11 2026. No macro, syntax, notation, axiom, sorry.
-/
import Derived.Test.YtkllomnelknpaaaDoorRows
import GoSem.ClaimSeven
namespace Go.Proofs.YtkllomnelknpaaaDoor
namespace Rows

/-- THE TIED CARD OF 'laws.FnExactFullFigure'. -/
def fnExactFullFigureCard : Claim7 := { stood := { row := fnExactFullFigureRow, standIns := [], harness := (true, "931c1d1b76cc2ed84380f5bff1eb72a69e4e8f70771fd2f7f3b881bd076a5539"), looks := false }, kinds := [], alts := [], laidByText := true, laidKinds := [.data], laidTests := true, laidLooks := .later }
def FnExactFullFigureCardSaid : Prop := Claim7.holds Tryd.pinned (.plain (OpenSpec.ofChange fnExactFullFigureSpec)) fnExactFullFigureCard

/-- THE TIED CARD OF 'laws.FnExactSquareFigure'. -/
def fnExactSquareFigureCard : Claim7 := { stood := { row := fnExactSquareFigureRow, standIns := [], harness := (true, "931c1d1b76cc2ed84380f5bff1eb72a69e4e8f70771fd2f7f3b881bd076a5539"), looks := false }, kinds := [], alts := [], laidByText := true, laidKinds := [.data], laidTests := true, laidLooks := .later }
def FnExactSquareFigureCardSaid : Prop := Claim7.holds Tryd.pinned (.plain (OpenSpec.ofChange fnExactSquareFigureSpec)) fnExactSquareFigureCard

/-- THE SECOND FORM's CARD OF 'laws.FnExactFullFigure'. -/
def fnExactFullFigureUptoCard : Claim7 := { stood := { row := fnExactFullFigureUptoRow, standIns := [], harness := (true, "931c1d1b76cc2ed84380f5bff1eb72a69e4e8f70771fd2f7f3b881bd076a5539"), looks := false }, kinds := [], alts := [], laidByText := true, laidKinds := [.data], laidTests := true, laidLooks := .later }
def FnExactFullFigureUptoCardSaid : Prop := Claim7.holds Tryd.pinned (.plain (OpenSpec.upto fnExactFullFigureSpec)) fnExactFullFigureUptoCard

/-- THE SECOND FORM's CARD OF 'laws.FnExactSquareFigure'. -/
def fnExactSquareFigureUptoCard : Claim7 := { stood := { row := fnExactSquareFigureUptoRow, standIns := [], harness := (true, "931c1d1b76cc2ed84380f5bff1eb72a69e4e8f70771fd2f7f3b881bd076a5539"), looks := false }, kinds := [], alts := [], laidByText := true, laidKinds := [.data], laidTests := true, laidLooks := .later }
def FnExactSquareFigureUptoCardSaid : Prop := Claim7.holds Tryd.pinned (.plain (OpenSpec.upto fnExactSquareFigureSpec)) fnExactSquareFigureUptoCard
end Rows
end Go.Proofs.YtkllomnelknpaaaDoor
