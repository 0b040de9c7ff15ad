/-
  DERIVED. GIVEN WITH THE SEED: THE CARDS: each row of YtnmngpgjkokdaaaDoorRows.lean that lists a variable, with what it lists TIED to the program's text (the seventh form; the later family's looks); each row that meets fmt, with fmt's text TOLD by the authors' own Lean function (tested against real Go, not proved from fmt's source: count such statements apart). THE CARD IS WHAT COUNTS. Prove the row's statement (the work); the ties are given (YtnmngpgjkokdaaaDoorTie.lean); close each card by the builder's one call (the guide's Derived/Test/ToyasCard.lean, 'card_holds'). Laid BY PROGRAM, IN A SANDBOX (cutbox-door.mjs). By AI agents, Wed Nov 11 2026. No macro, syntax, notation, axiom, sorry.
-/
import Derived.Test.YtnmngpgjkokdaaaDoorRows
import GoSem.ClaimSeven
namespace Go.Proofs.YtnmngpgjkokdaaaDoor
namespace Rows

/-- THE TIED CARD OF 'laws.FnExactFlipTriEdge'. -/
def fnExactFlipTriEdgeCard : Claim7 := { stood := { row := fnExactFlipTriEdgeRow, standIns := [], harness := (true, "47d3f63944a8fce65031c1cf49b5f93a6e859469552a0bc0ea256f9938bb17e5"), looks := false }, kinds := [], alts := [], laidByText := true, laidKinds := [.data], laidTests := true, laidLooks := .later }
def FnExactFlipTriEdgeCardSaid : Prop := Claim7.holds Tryd.pinned (.plain (OpenSpec.ofChange fnExactFlipTriEdgeSpec)) fnExactFlipTriEdgeCard

/-- THE TIED CARD OF 'laws.FnExactSquareFigure'. -/
def fnExactSquareFigureCard : Claim7 := { stood := { row := fnExactSquareFigureRow, standIns := [], harness := (true, "47d3f63944a8fce65031c1cf49b5f93a6e859469552a0bc0ea256f9938bb17e5"), looks := false }, kinds := [], alts := [], laidByText := true, laidKinds := [.data], laidTests := true, laidLooks := .later }
def FnExactSquareFigureCardSaid : Prop := Claim7.holds Tryd.pinned (.plain (OpenSpec.ofChange fnExactSquareFigureSpec)) fnExactSquareFigureCard

/-- THE TIED CARD OF 'laws.FnExactFullFigure'. -/
def fnExactFullFigureCard : Claim7 := { stood := { row := fnExactFullFigureRow, standIns := [], harness := (true, "47d3f63944a8fce65031c1cf49b5f93a6e859469552a0bc0ea256f9938bb17e5"), looks := false }, kinds := [], alts := [], laidByText := true, laidKinds := [.data], laidTests := true, laidLooks := .later }
def FnExactFullFigureCardSaid : Prop := Claim7.holds Tryd.pinned (.plain (OpenSpec.ofChange fnExactFullFigureSpec)) fnExactFullFigureCard

/-- THE TIED CARD OF 'laws.FnExactEmptyFigure'. -/
def fnExactEmptyFigureCard : Claim7 := { stood := { row := fnExactEmptyFigureRow, standIns := [], harness := (true, "47d3f63944a8fce65031c1cf49b5f93a6e859469552a0bc0ea256f9938bb17e5"), looks := false }, kinds := [], alts := [], laidByText := true, laidKinds := [.data], laidTests := true, laidLooks := .later }
def FnExactEmptyFigureCardSaid : Prop := Claim7.holds Tryd.pinned (.plain (OpenSpec.ofChange fnExactEmptyFigureSpec)) fnExactEmptyFigureCard

/-- THE TIED CARD OF 'laws.FnExactFullTri'. -/
def fnExactFullTriCard : Claim7 := { stood := { row := fnExactFullTriRow, standIns := [], harness := (true, "47d3f63944a8fce65031c1cf49b5f93a6e859469552a0bc0ea256f9938bb17e5"), looks := false }, kinds := [], alts := [], laidByText := true, laidKinds := [.data], laidTests := true, laidLooks := .later }
def FnExactFullTriCardSaid : Prop := Claim7.holds Tryd.pinned (.plain (OpenSpec.ofChange fnExactFullTriSpec)) fnExactFullTriCard

/-- THE SECOND FORM's CARD OF 'laws.FnExactFlipTriEdge'. -/
def fnExactFlipTriEdgeUptoCard : Claim7 := { stood := { row := fnExactFlipTriEdgeUptoRow, standIns := [], harness := (true, "47d3f63944a8fce65031c1cf49b5f93a6e859469552a0bc0ea256f9938bb17e5"), looks := false }, kinds := [], alts := [], laidByText := true, laidKinds := [.data], laidTests := true, laidLooks := .later }
def FnExactFlipTriEdgeUptoCardSaid : Prop := Claim7.holds Tryd.pinned (.plain (OpenSpec.upto fnExactFlipTriEdgeSpec)) fnExactFlipTriEdgeUptoCard

/-- THE SECOND FORM's CARD OF 'laws.FnExactSquareFigure'. -/
def fnExactSquareFigureUptoCard : Claim7 := { stood := { row := fnExactSquareFigureUptoRow, standIns := [], harness := (true, "47d3f63944a8fce65031c1cf49b5f93a6e859469552a0bc0ea256f9938bb17e5"), looks := false }, kinds := [], alts := [], laidByText := true, laidKinds := [.data], laidTests := true, laidLooks := .later }
def FnExactSquareFigureUptoCardSaid : Prop := Claim7.holds Tryd.pinned (.plain (OpenSpec.upto fnExactSquareFigureSpec)) fnExactSquareFigureUptoCard

/-- THE SECOND FORM's CARD OF 'laws.FnExactFullFigure'. -/
def fnExactFullFigureUptoCard : Claim7 := { stood := { row := fnExactFullFigureUptoRow, standIns := [], harness := (true, "47d3f63944a8fce65031c1cf49b5f93a6e859469552a0bc0ea256f9938bb17e5"), looks := false }, kinds := [], alts := [], laidByText := true, laidKinds := [.data], laidTests := true, laidLooks := .later }
def FnExactFullFigureUptoCardSaid : Prop := Claim7.holds Tryd.pinned (.plain (OpenSpec.upto fnExactFullFigureSpec)) fnExactFullFigureUptoCard

/-- THE SECOND FORM's CARD OF 'laws.FnExactEmptyFigure'. -/
def fnExactEmptyFigureUptoCard : Claim7 := { stood := { row := fnExactEmptyFigureUptoRow, standIns := [], harness := (true, "47d3f63944a8fce65031c1cf49b5f93a6e859469552a0bc0ea256f9938bb17e5"), looks := false }, kinds := [], alts := [], laidByText := true, laidKinds := [.data], laidTests := true, laidLooks := .later }
def FnExactEmptyFigureUptoCardSaid : Prop := Claim7.holds Tryd.pinned (.plain (OpenSpec.upto fnExactEmptyFigureSpec)) fnExactEmptyFigureUptoCard

/-- THE SECOND FORM's CARD OF 'laws.FnExactFullTri'. -/
def fnExactFullTriUptoCard : Claim7 := { stood := { row := fnExactFullTriUptoRow, standIns := [], harness := (true, "47d3f63944a8fce65031c1cf49b5f93a6e859469552a0bc0ea256f9938bb17e5"), looks := false }, kinds := [], alts := [], laidByText := true, laidKinds := [.data], laidTests := true, laidLooks := .later }
def FnExactFullTriUptoCardSaid : Prop := Claim7.holds Tryd.pinned (.plain (OpenSpec.upto fnExactFullTriSpec)) fnExactFullTriUptoCard
end Rows
end Go.Proofs.YtnmngpgjkokdaaaDoor
