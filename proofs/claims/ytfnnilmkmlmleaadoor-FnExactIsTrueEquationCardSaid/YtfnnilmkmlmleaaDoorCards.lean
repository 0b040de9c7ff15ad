/-
  DERIVED. GIVEN WITH THE SEED: THE CARDS: each row of YtfnnilmkmlmleaaDoorRows.lean that lists a variable, with what it lists TIED to the program's text (the seventh form; the later family's looks); each row that meets fmt, with fmt's text TOLD by the authors' own Lean function (tested against real Go, not proved from fmt's source: count such statements apart). THE CARD IS WHAT COUNTS. Prove the row's statement (the work); the ties are given (YtfnnilmkmlmleaaDoorTie.lean); close each card by the builder's one call (the guide's Derived/Test/ToyasCard.lean, 'card_holds'). Laid BY PROGRAM, IN A SANDBOX (cutbox-door.mjs). By AI agents, Wed Nov 11 2026. No macro, syntax, notation, axiom, sorry.
-/
import Derived.Test.YtfnnilmkmlmleaaDoorRows
import GoSem.ClaimSeven
namespace Go.Proofs.YtfnnilmkmlmleaaDoor
namespace Rows

/-- THE TIED CARD OF 'laws.FnExactMatchesOfNumeral'. -/
def fnExactMatchesOfNumeralCard : Claim7 := { stood := { row := fnExactMatchesOfNumeralRow, standIns := [], harness := (true, "c8ea9b3bb6afbbe09c6cd947dabae88d04c3b409b8ec186fb4008b2d0c85649e"), looks := true }, kinds := [], alts := [], laidByText := true, laidKinds := [.data, .widerDeep, .pinned], laidTests := true, laidLooks := .later }
def FnExactMatchesOfNumeralCardSaid : Prop := Claim7.holds Tryd.pinned (.plain (OpenSpec.ofChange fnExactMatchesOfNumeralSpec)) fnExactMatchesOfNumeralCard

/-- THE TIED CARD OF 'laws.FnExactHardestDigit'. -/
def fnExactHardestDigitCard : Claim7 := { stood := { row := fnExactHardestDigitRow, standIns := [], harness := (true, "c8ea9b3bb6afbbe09c6cd947dabae88d04c3b409b8ec186fb4008b2d0c85649e"), looks := true }, kinds := [], alts := [], laidByText := true, laidKinds := [.data, .widerDeep, .pinned], laidTests := true, laidLooks := .later }
def FnExactHardestDigitCardSaid : Prop := Claim7.holds Tryd.pinned (.plain (OpenSpec.ofChange fnExactHardestDigitSpec)) fnExactHardestDigitCard

/-- THE TIED CARD OF 'laws.FnExactIsEquation'. -/
def fnExactIsEquationCard : Claim7 := { stood := { row := fnExactIsEquationRow, standIns := [], harness := (true, "c8ea9b3bb6afbbe09c6cd947dabae88d04c3b409b8ec186fb4008b2d0c85649e"), looks := true }, kinds := [], alts := [], laidByText := true, laidKinds := [.data, .pinned], laidTests := true, laidLooks := .later }
def FnExactIsEquationCardSaid : Prop := Claim7.holds Tryd.pinned (.plain (OpenSpec.ofChange fnExactIsEquationSpec)) fnExactIsEquationCard

/-- THE TIED CARD OF 'laws.FnExactMatchesOfEquation'. -/
def fnExactMatchesOfEquationCard : Claim7 := { stood := { row := fnExactMatchesOfEquationRow, standIns := [], harness := (true, "c8ea9b3bb6afbbe09c6cd947dabae88d04c3b409b8ec186fb4008b2d0c85649e"), looks := true }, kinds := [], alts := [], laidByText := true, laidKinds := [.data, .widerDeep, .pinned], laidTests := true, laidLooks := .later }
def FnExactMatchesOfEquationCardSaid : Prop := Claim7.holds Tryd.pinned (.plain (OpenSpec.ofChange fnExactMatchesOfEquationSpec)) fnExactMatchesOfEquationCard

/-- THE TIED CARD OF 'laws.FnExactMovesToEquation'. -/
def fnExactMovesToEquationCard : Claim7 := { stood := { row := fnExactMovesToEquationRow, standIns := [], harness := (true, "c8ea9b3bb6afbbe09c6cd947dabae88d04c3b409b8ec186fb4008b2d0c85649e"), looks := true }, kinds := [], alts := [], laidByText := true, laidKinds := [.data, .widerDeep, .pinned], laidTests := true, laidLooks := .later }
def FnExactMovesToEquationCardSaid : Prop := Claim7.holds Tryd.pinned (.plain (OpenSpec.ofChange fnExactMovesToEquationSpec)) fnExactMovesToEquationCard

/-- THE TIED CARD OF 'laws.FnExactTurnNumeral'. -/
def fnExactTurnNumeralCard : Claim7 := { stood := { row := fnExactTurnNumeralRow, standIns := [], harness := (true, "c8ea9b3bb6afbbe09c6cd947dabae88d04c3b409b8ec186fb4008b2d0c85649e"), looks := true }, kinds := [], alts := [], laidByText := true, laidKinds := [.data, .pinned], laidTests := true, laidLooks := .later }
def FnExactTurnNumeralCardSaid : Prop := Claim7.holds Tryd.pinned (.plain (OpenSpec.ofChange fnExactTurnNumeralSpec)) fnExactTurnNumeralCard

/-- THE TIED CARD OF 'laws.FnExactIsTrueEquation'. -/
def fnExactIsTrueEquationCard : Claim7 := { stood := { row := fnExactIsTrueEquationRow, standIns := [], harness := (true, "c8ea9b3bb6afbbe09c6cd947dabae88d04c3b409b8ec186fb4008b2d0c85649e"), looks := true }, kinds := [], alts := [], laidByText := true, laidKinds := [.data, .data, .data, .data, .sentinel, .sentinel, .pinned], laidTests := true, laidLooks := .later }
def FnExactIsTrueEquationCardSaid : Prop := Claim7.holds Tryd.pinned (.plain (OpenSpec.ofChange fnExactIsTrueEquationSpec)) fnExactIsTrueEquationCard

/-- THE SECOND FORM's CARD OF 'laws.FnExactMatchesOfNumeral'. -/
def fnExactMatchesOfNumeralUptoCard : Claim7 := { stood := { row := fnExactMatchesOfNumeralUptoRow, standIns := [], harness := (true, "c8ea9b3bb6afbbe09c6cd947dabae88d04c3b409b8ec186fb4008b2d0c85649e"), looks := true }, kinds := [], alts := [], laidByText := true, laidKinds := [.data, .widerDeep, .pinned], laidTests := true, laidLooks := .later }
def FnExactMatchesOfNumeralUptoCardSaid : Prop := Claim7.holds Tryd.pinned (.plain (OpenSpec.upto fnExactMatchesOfNumeralSpec)) fnExactMatchesOfNumeralUptoCard

/-- THE SECOND FORM's CARD OF 'laws.FnExactHardestDigit'. -/
def fnExactHardestDigitUptoCard : Claim7 := { stood := { row := fnExactHardestDigitUptoRow, standIns := [], harness := (true, "c8ea9b3bb6afbbe09c6cd947dabae88d04c3b409b8ec186fb4008b2d0c85649e"), looks := true }, kinds := [], alts := [], laidByText := true, laidKinds := [.data, .widerDeep, .pinned], laidTests := true, laidLooks := .later }
def FnExactHardestDigitUptoCardSaid : Prop := Claim7.holds Tryd.pinned (.plain (OpenSpec.upto fnExactHardestDigitSpec)) fnExactHardestDigitUptoCard

/-- THE SECOND FORM's CARD OF 'laws.FnExactIsEquation'. -/
def fnExactIsEquationUptoCard : Claim7 := { stood := { row := fnExactIsEquationUptoRow, standIns := [], harness := (true, "c8ea9b3bb6afbbe09c6cd947dabae88d04c3b409b8ec186fb4008b2d0c85649e"), looks := true }, kinds := [], alts := [], laidByText := true, laidKinds := [.data, .pinned], laidTests := true, laidLooks := .later }
def FnExactIsEquationUptoCardSaid : Prop := Claim7.holds Tryd.pinned (.plain (OpenSpec.upto fnExactIsEquationSpec)) fnExactIsEquationUptoCard

/-- THE SECOND FORM's CARD OF 'laws.FnExactMatchesOfEquation'. -/
def fnExactMatchesOfEquationUptoCard : Claim7 := { stood := { row := fnExactMatchesOfEquationUptoRow, standIns := [], harness := (true, "c8ea9b3bb6afbbe09c6cd947dabae88d04c3b409b8ec186fb4008b2d0c85649e"), looks := true }, kinds := [], alts := [], laidByText := true, laidKinds := [.data, .widerDeep, .pinned], laidTests := true, laidLooks := .later }
def FnExactMatchesOfEquationUptoCardSaid : Prop := Claim7.holds Tryd.pinned (.plain (OpenSpec.upto fnExactMatchesOfEquationSpec)) fnExactMatchesOfEquationUptoCard

/-- THE SECOND FORM's CARD OF 'laws.FnExactMovesToEquation'. -/
def fnExactMovesToEquationUptoCard : Claim7 := { stood := { row := fnExactMovesToEquationUptoRow, standIns := [], harness := (true, "c8ea9b3bb6afbbe09c6cd947dabae88d04c3b409b8ec186fb4008b2d0c85649e"), looks := true }, kinds := [], alts := [], laidByText := true, laidKinds := [.data, .widerDeep, .pinned], laidTests := true, laidLooks := .later }
def FnExactMovesToEquationUptoCardSaid : Prop := Claim7.holds Tryd.pinned (.plain (OpenSpec.upto fnExactMovesToEquationSpec)) fnExactMovesToEquationUptoCard

/-- THE SECOND FORM's CARD OF 'laws.FnExactTurnNumeral'. -/
def fnExactTurnNumeralUptoCard : Claim7 := { stood := { row := fnExactTurnNumeralUptoRow, standIns := [], harness := (true, "c8ea9b3bb6afbbe09c6cd947dabae88d04c3b409b8ec186fb4008b2d0c85649e"), looks := true }, kinds := [], alts := [], laidByText := true, laidKinds := [.data, .pinned], laidTests := true, laidLooks := .later }
def FnExactTurnNumeralUptoCardSaid : Prop := Claim7.holds Tryd.pinned (.plain (OpenSpec.upto fnExactTurnNumeralSpec)) fnExactTurnNumeralUptoCard

/-- THE SECOND FORM's CARD OF 'laws.FnExactIsTrueEquation'. -/
def fnExactIsTrueEquationUptoCard : Claim7 := { stood := { row := fnExactIsTrueEquationUptoRow, standIns := [], harness := (true, "c8ea9b3bb6afbbe09c6cd947dabae88d04c3b409b8ec186fb4008b2d0c85649e"), looks := true }, kinds := [], alts := [], laidByText := true, laidKinds := [.data, .data, .data, .data, .sentinel, .sentinel, .pinned], laidTests := true, laidLooks := .later }
def FnExactIsTrueEquationUptoCardSaid : Prop := Claim7.holds Tryd.pinned (.plain (OpenSpec.upto fnExactIsTrueEquationSpec)) fnExactIsTrueEquationUptoCard
end Rows
end Go.Proofs.YtfnnilmkmlmleaaDoor
