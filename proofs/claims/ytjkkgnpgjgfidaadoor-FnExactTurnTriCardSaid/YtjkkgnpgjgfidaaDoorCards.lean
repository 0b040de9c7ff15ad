/-
  DERIVED. GIVEN WITH THE SEED: THE CARDS: each row of YtjkkgnpgjgfidaaDoorRows.lean that lists a variable, with what it lists TIED to the program's text (the seventh form; the later family's looks); each row that meets fmt, with fmt's text TOLD by the authors' own Lean function (tested against real Go, not proved from fmt's source: count such statements apart). THE CARD IS WHAT COUNTS. Prove the row's statement (the work); the ties are given (YtjkkgnpgjgfidaaDoorTie.lean); close each card by the builder's one call (the guide's Derived/Test/ToyasCard.lean, 'card_holds'). Laid BY PROGRAM, IN A SANDBOX (cutbox-door.mjs). By AI agents, Wed Nov 11 2026. No macro, syntax, notation, axiom, sorry.
-/
import Derived.Test.YtjkkgnpgjgfidaaDoorRows
import GoSem.ClaimSeven
namespace Go.Proofs.YtjkkgnpgjgfidaaDoor
namespace Rows

/-- THE TIED CARD OF 'laws.FnExactMirrorTri'. -/
def fnExactMirrorTriCard : Claim7 := { stood := { row := fnExactMirrorTriRow, standIns := [], harness := (true, "d868cd0a3b15b9df9d08639bb8794fa5928488fe3d1059496bea551418b76e17"), looks := false }, kinds := [], alts := [], laidByText := true, laidKinds := [.data], laidTests := true, laidLooks := .later }
def FnExactMirrorTriCardSaid : Prop := Claim7.holds Tryd.pinned (.plain (OpenSpec.ofChange fnExactMirrorTriSpec)) fnExactMirrorTriCard

/-- THE TIED CARD OF 'laws.FnExactTurnTri'. -/
def fnExactTurnTriCard : Claim7 := { stood := { row := fnExactTurnTriRow, standIns := [], harness := (true, "d868cd0a3b15b9df9d08639bb8794fa5928488fe3d1059496bea551418b76e17"), looks := false }, kinds := [], alts := [], laidByText := true, laidKinds := [.data], laidTests := true, laidLooks := .later }
def FnExactTurnTriCardSaid : Prop := Claim7.holds Tryd.pinned (.plain (OpenSpec.ofChange fnExactTurnTriSpec)) fnExactTurnTriCard

/-- THE SECOND FORM's CARD OF 'laws.FnExactMirrorTri'. -/
def fnExactMirrorTriUptoCard : Claim7 := { stood := { row := fnExactMirrorTriUptoRow, standIns := [], harness := (true, "d868cd0a3b15b9df9d08639bb8794fa5928488fe3d1059496bea551418b76e17"), looks := false }, kinds := [], alts := [], laidByText := true, laidKinds := [.data], laidTests := true, laidLooks := .later }
def FnExactMirrorTriUptoCardSaid : Prop := Claim7.holds Tryd.pinned (.plain (OpenSpec.upto fnExactMirrorTriSpec)) fnExactMirrorTriUptoCard

/-- THE SECOND FORM's CARD OF 'laws.FnExactTurnTri'. -/
def fnExactTurnTriUptoCard : Claim7 := { stood := { row := fnExactTurnTriUptoRow, standIns := [], harness := (true, "d868cd0a3b15b9df9d08639bb8794fa5928488fe3d1059496bea551418b76e17"), looks := false }, kinds := [], alts := [], laidByText := true, laidKinds := [.data], laidTests := true, laidLooks := .later }
def FnExactTurnTriUptoCardSaid : Prop := Claim7.holds Tryd.pinned (.plain (OpenSpec.upto fnExactTurnTriSpec)) fnExactTurnTriUptoCard
end Rows
end Go.Proofs.YtjkkgnpgjgfidaaDoor
