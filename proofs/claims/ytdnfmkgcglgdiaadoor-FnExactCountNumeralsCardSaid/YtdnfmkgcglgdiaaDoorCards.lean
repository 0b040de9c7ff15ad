/-
  DERIVED. GIVEN WITH THE SEED: THE CARDS: each row of YtdnfmkgcglgdiaaDoorRows.lean that lists a variable, with what it lists TIED to the program's text (the seventh form; the later family's looks); each row that meets fmt, with fmt's text TOLD by the authors' own Lean function (tested against real Go, not proved from fmt's source: count such statements apart). THE CARD IS WHAT COUNTS. Prove the row's statement (the work); the ties are given (YtdnfmkgcglgdiaaDoorTie.lean); close each card by the builder's one call (the guide's Derived/Test/ToyasCard.lean, 'card_holds'). Laid BY PROGRAM, IN A SANDBOX (cutbox-door.mjs). By AI agents, Wed Nov 11 2026. No macro, syntax, notation, axiom, sorry.
-/
import Derived.Test.YtdnfmkgcglgdiaaDoorRows
import GoSem.ClaimSeven
namespace Go.Proofs.YtdnfmkgcglgdiaaDoor
namespace Rows

/-- THE TIED CARD OF 'laws.FnExactGreatestNumeral'. -/
def fnExactGreatestNumeralCard : Claim7 := { stood := { row := fnExactGreatestNumeralRow, standIns := [], harness := (true, "4b90415c19d51362154d3b5df66477b277329bd334890669b5a79ea41b88e211"), looks := false }, kinds := [], alts := [], laidByText := true, laidKinds := [.widerDeep], laidTests := true, laidLooks := .later }
def FnExactGreatestNumeralCardSaid : Prop := Claim7.holds Tryd.pinned (.plain (OpenSpec.ofChange fnExactGreatestNumeralSpec)) fnExactGreatestNumeralCard

/-- THE TIED CARD OF 'laws.FnExactCanBecome'. -/
def fnExactCanBecomeCard : Claim7 := { stood := { row := fnExactCanBecomeRow, standIns := [], harness := (true, "4b90415c19d51362154d3b5df66477b277329bd334890669b5a79ea41b88e211"), looks := false }, kinds := [], alts := [], laidByText := true, laidKinds := [.widerDeep], laidTests := true, laidLooks := .later }
def FnExactCanBecomeCardSaid : Prop := Claim7.holds Tryd.pinned (.plain (OpenSpec.ofChange fnExactCanBecomeSpec)) fnExactCanBecomeCard

/-- THE TIED CARD OF 'laws.FnExactCountNumerals'. -/
def fnExactCountNumeralsCard : Claim7 := { stood := { row := fnExactCountNumeralsRow, standIns := [], harness := (true, "4b90415c19d51362154d3b5df66477b277329bd334890669b5a79ea41b88e211"), looks := false }, kinds := [], alts := [], laidByText := true, laidKinds := [.widerDeep], laidTests := true, laidLooks := .later }
def FnExactCountNumeralsCardSaid : Prop := Claim7.holds Tryd.pinned (.plain (OpenSpec.ofChange fnExactCountNumeralsSpec)) fnExactCountNumeralsCard

/-- THE TIED CARD OF 'laws.FnExactLeastNumeral'. -/
def fnExactLeastNumeralCard : Claim7 := { stood := { row := fnExactLeastNumeralRow, standIns := [], harness := (true, "4b90415c19d51362154d3b5df66477b277329bd334890669b5a79ea41b88e211"), looks := false }, kinds := [], alts := [], laidByText := true, laidKinds := [.widerDeep], laidTests := true, laidLooks := .later }
def FnExactLeastNumeralCardSaid : Prop := Claim7.holds Tryd.pinned (.plain (OpenSpec.ofChange fnExactLeastNumeralSpec)) fnExactLeastNumeralCard

/-- THE TIED CARD OF 'laws.FnExactMatchesOfDigit'. -/
def fnExactMatchesOfDigitCard : Claim7 := { stood := { row := fnExactMatchesOfDigitRow, standIns := [], harness := (true, "4b90415c19d51362154d3b5df66477b277329bd334890669b5a79ea41b88e211"), looks := false }, kinds := [], alts := [], laidByText := true, laidKinds := [.data, .widerDeep], laidTests := true, laidLooks := .later }
def FnExactMatchesOfDigitCardSaid : Prop := Claim7.holds Tryd.pinned (.plain (OpenSpec.ofChange fnExactMatchesOfDigitSpec)) fnExactMatchesOfDigitCard

/-- THE TIED CARD OF 'laws.FnExactDigitOfMatches'. -/
def fnExactDigitOfMatchesCard : Claim7 := { stood := { row := fnExactDigitOfMatchesRow, standIns := [], harness := (true, "4b90415c19d51362154d3b5df66477b277329bd334890669b5a79ea41b88e211"), looks := false }, kinds := [], alts := [], laidByText := true, laidKinds := [.widerDeep], laidTests := true, laidLooks := .later }
def FnExactDigitOfMatchesCardSaid : Prop := Claim7.holds Tryd.pinned (.plain (OpenSpec.ofChange fnExactDigitOfMatchesSpec)) fnExactDigitOfMatchesCard

/-- THE SECOND FORM's CARD OF 'laws.FnExactGreatestNumeral'. -/
def fnExactGreatestNumeralUptoCard : Claim7 := { stood := { row := fnExactGreatestNumeralUptoRow, standIns := [], harness := (true, "4b90415c19d51362154d3b5df66477b277329bd334890669b5a79ea41b88e211"), looks := false }, kinds := [], alts := [], laidByText := true, laidKinds := [.widerDeep], laidTests := true, laidLooks := .later }
def FnExactGreatestNumeralUptoCardSaid : Prop := Claim7.holds Tryd.pinned (.plain (OpenSpec.upto fnExactGreatestNumeralSpec)) fnExactGreatestNumeralUptoCard

/-- THE SECOND FORM's CARD OF 'laws.FnExactCanBecome'. -/
def fnExactCanBecomeUptoCard : Claim7 := { stood := { row := fnExactCanBecomeUptoRow, standIns := [], harness := (true, "4b90415c19d51362154d3b5df66477b277329bd334890669b5a79ea41b88e211"), looks := false }, kinds := [], alts := [], laidByText := true, laidKinds := [.widerDeep], laidTests := true, laidLooks := .later }
def FnExactCanBecomeUptoCardSaid : Prop := Claim7.holds Tryd.pinned (.plain (OpenSpec.upto fnExactCanBecomeSpec)) fnExactCanBecomeUptoCard

/-- THE SECOND FORM's CARD OF 'laws.FnExactCountNumerals'. -/
def fnExactCountNumeralsUptoCard : Claim7 := { stood := { row := fnExactCountNumeralsUptoRow, standIns := [], harness := (true, "4b90415c19d51362154d3b5df66477b277329bd334890669b5a79ea41b88e211"), looks := false }, kinds := [], alts := [], laidByText := true, laidKinds := [.widerDeep], laidTests := true, laidLooks := .later }
def FnExactCountNumeralsUptoCardSaid : Prop := Claim7.holds Tryd.pinned (.plain (OpenSpec.upto fnExactCountNumeralsSpec)) fnExactCountNumeralsUptoCard

/-- THE SECOND FORM's CARD OF 'laws.FnExactLeastNumeral'. -/
def fnExactLeastNumeralUptoCard : Claim7 := { stood := { row := fnExactLeastNumeralUptoRow, standIns := [], harness := (true, "4b90415c19d51362154d3b5df66477b277329bd334890669b5a79ea41b88e211"), looks := false }, kinds := [], alts := [], laidByText := true, laidKinds := [.widerDeep], laidTests := true, laidLooks := .later }
def FnExactLeastNumeralUptoCardSaid : Prop := Claim7.holds Tryd.pinned (.plain (OpenSpec.upto fnExactLeastNumeralSpec)) fnExactLeastNumeralUptoCard

/-- THE SECOND FORM's CARD OF 'laws.FnExactMatchesOfDigit'. -/
def fnExactMatchesOfDigitUptoCard : Claim7 := { stood := { row := fnExactMatchesOfDigitUptoRow, standIns := [], harness := (true, "4b90415c19d51362154d3b5df66477b277329bd334890669b5a79ea41b88e211"), looks := false }, kinds := [], alts := [], laidByText := true, laidKinds := [.data, .widerDeep], laidTests := true, laidLooks := .later }
def FnExactMatchesOfDigitUptoCardSaid : Prop := Claim7.holds Tryd.pinned (.plain (OpenSpec.upto fnExactMatchesOfDigitSpec)) fnExactMatchesOfDigitUptoCard

/-- THE SECOND FORM's CARD OF 'laws.FnExactDigitOfMatches'. -/
def fnExactDigitOfMatchesUptoCard : Claim7 := { stood := { row := fnExactDigitOfMatchesUptoRow, standIns := [], harness := (true, "4b90415c19d51362154d3b5df66477b277329bd334890669b5a79ea41b88e211"), looks := false }, kinds := [], alts := [], laidByText := true, laidKinds := [.widerDeep], laidTests := true, laidLooks := .later }
def FnExactDigitOfMatchesUptoCardSaid : Prop := Claim7.holds Tryd.pinned (.plain (OpenSpec.upto fnExactDigitOfMatchesSpec)) fnExactDigitOfMatchesUptoCard
end Rows
end Go.Proofs.YtdnfmkgcglgdiaaDoor
