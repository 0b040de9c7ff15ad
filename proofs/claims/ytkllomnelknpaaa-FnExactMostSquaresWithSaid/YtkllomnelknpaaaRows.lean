/-
  No cell of these rows narrows 'for every input' (looked for: loops, veiled, ifaces, maps, wideKeys, modest, calm, conditions, laid).
  DERIVED. THE GIVEN ROWS OF THIS SEAT. 10 by the template 'for every input the law returns true; each argument reads behind the call as it read before'; 0 by the template 'total and deterministic' (their statements: YtkllomnelknpaaaTotals.lean).
  GIVEN WITH THE SEED: the statements are not yours to turn. If you find one false, say at which input.
  Laid BY PROGRAM, IN A SANDBOX (cutbox-rows.mjs): the forced cells as the released guide's own fill.sh prints them over the translation c19c8999272cab48… (all of the seat's roots in one cut). By AI agents, Wed Nov 11 2026. No macro, syntax, notation, axiom, sorry.
-/
import Derived.Test.YtkllomnelknpaaaChecked
import GoSem.Claim
import GoSem.ClaimJoined
import GoSem.ClaimMapViews
import Derived.JoinedTies
import Derived.KernelRfl
namespace Go.Proofs.Ytkllomnelknpaaa
/- THE CELL 'sum', in the pinned program and in every row, IS THE sha256 OF THE DUMP (.gsa) THAT YtkllomnelknpaaaProg.lean LOADS. Nothing in Lean hashes anything: it is a label: what it is worth is what the hold of that sum in a sandbox is worth. -/
noncomputable def Try.pinned : Pinned := { name := "ytkllomnelknpaaa", sum := "c19c8999272cab48b814ec2c18ca30cab34648b4bdee61d3e1499153075723ed", checked := Try.checked }
namespace Rows
def none {H : Type} : Left H := { results := [], args := [] }

/-- 'laws.FnExactIsFigure': WHATEVER THE INPUT: true; the input reads as it did. -/
def fnExactIsFigureSpec : ChangeSpec := { name := "fnExactIsFigure", fn := fun _ => fun
  | [d] => { results := [.lit (.bool true)], args := [d] }
  | _ => none }
def fnExactIsFigureRow : OpenClaim := { program := "ytkllomnelknpaaa", sum := "c19c8999272cab48b814ec2c18ca30cab34648b4bdee61d3e1499153075723ed", func := "loop.example/g01233/laws.FnExactIsFigure", spec := "fnExactIsFigure", unfollowed := true, recurses := true, apart := false }
def FnExactIsFigureSaid : Prop := fnExactIsFigureRow.holds Try.pinned (OpenSpec.ofChange fnExactIsFigureSpec)

/-- ITS FALSE NEIGHBOUR: 'it returns false'. Refute it at one input. -/
def fnExactIsFigureWrong : ChangeSpec := { name := "fnExactIsFigure", fn := fun _ => fun
  | [d] => { results := [.lit (.bool false)], args := [d] }
  | _ => none }
def FnExactIsFigureWrongFalsely : Prop := fnExactIsFigureRow.holds Try.pinned (OpenSpec.ofChange fnExactIsFigureWrong)

/-- 'laws.FnExactMostSquaresWith': WHATEVER THE INPUT: true; the input reads as it did. -/
def fnExactMostSquaresWithSpec : ChangeSpec := { name := "fnExactMostSquaresWith", fn := fun _ => fun
  | [d1, d2, d3] => { results := [.lit (.bool true)], args := [d1, d2, d3] }
  | _ => none }
def fnExactMostSquaresWithRow : OpenClaim := { program := "ytkllomnelknpaaa", sum := "c19c8999272cab48b814ec2c18ca30cab34648b4bdee61d3e1499153075723ed", func := "loop.example/g01233/laws.FnExactMostSquaresWith", spec := "fnExactMostSquaresWith", apart := false }
def FnExactMostSquaresWithSaid : Prop := fnExactMostSquaresWithRow.holds Try.pinned (OpenSpec.ofChange fnExactMostSquaresWithSpec)

/-- ITS FALSE NEIGHBOUR: 'it returns false'. Refute it at one input. -/
def fnExactMostSquaresWithWrong : ChangeSpec := { name := "fnExactMostSquaresWith", fn := fun _ => fun
  | [d1, d2, d3] => { results := [.lit (.bool false)], args := [d1, d2, d3] }
  | _ => none }
def FnExactMostSquaresWithWrongFalsely : Prop := fnExactMostSquaresWithRow.holds Try.pinned (OpenSpec.ofChange fnExactMostSquaresWithWrong)

/-- 'laws.FnExactCountMatches': WHATEVER THE INPUT: true; the input reads as it did. -/
def fnExactCountMatchesSpec : ChangeSpec := { name := "fnExactCountMatches", fn := fun _ => fun
  | [d] => { results := [.lit (.bool true)], args := [d] }
  | _ => none }
def fnExactCountMatchesRow : OpenClaim := { program := "ytkllomnelknpaaa", sum := "c19c8999272cab48b814ec2c18ca30cab34648b4bdee61d3e1499153075723ed", func := "loop.example/g01233/laws.FnExactCountMatches", spec := "fnExactCountMatches", unfollowed := true, recurses := true, apart := false }
def FnExactCountMatchesSaid : Prop := fnExactCountMatchesRow.holds Try.pinned (OpenSpec.ofChange fnExactCountMatchesSpec)

/-- ITS FALSE NEIGHBOUR: 'it returns false'. Refute it at one input. -/
def fnExactCountMatchesWrong : ChangeSpec := { name := "fnExactCountMatches", fn := fun _ => fun
  | [d] => { results := [.lit (.bool false)], args := [d] }
  | _ => none }
def FnExactCountMatchesWrongFalsely : Prop := fnExactCountMatchesRow.holds Try.pinned (OpenSpec.ofChange fnExactCountMatchesWrong)

/-- 'laws.FnExactHasMatch': WHATEVER THE INPUT: true; the input reads as it did. -/
def fnExactHasMatchSpec : ChangeSpec := { name := "fnExactHasMatch", fn := fun _ => fun
  | [d1, d2, d3, d4] => { results := [.lit (.bool true)], args := [d1, d2, d3, d4] }
  | _ => none }
def fnExactHasMatchRow : OpenClaim := { program := "ytkllomnelknpaaa", sum := "c19c8999272cab48b814ec2c18ca30cab34648b4bdee61d3e1499153075723ed", func := "loop.example/g01233/laws.FnExactHasMatch", spec := "fnExactHasMatch", unfollowed := true, recurses := true, apart := false }
def FnExactHasMatchSaid : Prop := fnExactHasMatchRow.holds Try.pinned (OpenSpec.ofChange fnExactHasMatchSpec)

/-- ITS FALSE NEIGHBOUR: 'it returns false'. Refute it at one input. -/
def fnExactHasMatchWrong : ChangeSpec := { name := "fnExactHasMatch", fn := fun _ => fun
  | [d1, d2, d3, d4] => { results := [.lit (.bool false)], args := [d1, d2, d3, d4] }
  | _ => none }
def FnExactHasMatchWrongFalsely : Prop := fnExactHasMatchRow.holds Try.pinned (OpenSpec.ofChange fnExactHasMatchWrong)

/-- 'laws.FnExactMovesBetween': WHATEVER THE INPUT: true; the input reads as it did. -/
def fnExactMovesBetweenSpec : ChangeSpec := { name := "fnExactMovesBetween", fn := fun _ => fun
  | [d1, d2] => { results := [.lit (.bool true)], args := [d1, d2] }
  | _ => none }
def fnExactMovesBetweenRow : OpenClaim := { program := "ytkllomnelknpaaa", sum := "c19c8999272cab48b814ec2c18ca30cab34648b4bdee61d3e1499153075723ed", func := "loop.example/g01233/laws.FnExactMovesBetween", spec := "fnExactMovesBetween", unfollowed := true, recurses := true, apart := false }
def FnExactMovesBetweenSaid : Prop := fnExactMovesBetweenRow.holds Try.pinned (OpenSpec.ofChange fnExactMovesBetweenSpec)

/-- ITS FALSE NEIGHBOUR: 'it returns false'. Refute it at one input. -/
def fnExactMovesBetweenWrong : ChangeSpec := { name := "fnExactMovesBetween", fn := fun _ => fun
  | [d1, d2] => { results := [.lit (.bool false)], args := [d1, d2] }
  | _ => none }
def FnExactMovesBetweenWrongFalsely : Prop := fnExactMovesBetweenRow.holds Try.pinned (OpenSpec.ofChange fnExactMovesBetweenWrong)

/-- 'laws.FnExactIsMoveOf': WHATEVER THE INPUT: true; the input reads as it did. -/
def fnExactIsMoveOfSpec : ChangeSpec := { name := "fnExactIsMoveOf", fn := fun _ => fun
  | [d1, d2, d3] => { results := [.lit (.bool true)], args := [d1, d2, d3] }
  | _ => none }
def fnExactIsMoveOfRow : OpenClaim := { program := "ytkllomnelknpaaa", sum := "c19c8999272cab48b814ec2c18ca30cab34648b4bdee61d3e1499153075723ed", func := "loop.example/g01233/laws.FnExactIsMoveOf", spec := "fnExactIsMoveOf", unfollowed := true, recurses := true, apart := false }
def FnExactIsMoveOfSaid : Prop := fnExactIsMoveOfRow.holds Try.pinned (OpenSpec.ofChange fnExactIsMoveOfSpec)

/-- ITS FALSE NEIGHBOUR: 'it returns false'. Refute it at one input. -/
def fnExactIsMoveOfWrong : ChangeSpec := { name := "fnExactIsMoveOf", fn := fun _ => fun
  | [d1, d2, d3] => { results := [.lit (.bool false)], args := [d1, d2, d3] }
  | _ => none }
def FnExactIsMoveOfWrongFalsely : Prop := fnExactIsMoveOfRow.holds Try.pinned (OpenSpec.ofChange fnExactIsMoveOfWrong)

/-- 'laws.FnExactIsTakeOf': WHATEVER THE INPUT: true; the input reads as it did. -/
def fnExactIsTakeOfSpec : ChangeSpec := { name := "fnExactIsTakeOf", fn := fun _ => fun
  | [d1, d2, d3] => { results := [.lit (.bool true)], args := [d1, d2, d3] }
  | _ => none }
def fnExactIsTakeOfRow : OpenClaim := { program := "ytkllomnelknpaaa", sum := "c19c8999272cab48b814ec2c18ca30cab34648b4bdee61d3e1499153075723ed", func := "loop.example/g01233/laws.FnExactIsTakeOf", spec := "fnExactIsTakeOf", unfollowed := true, recurses := true, apart := false }
def FnExactIsTakeOfSaid : Prop := fnExactIsTakeOfRow.holds Try.pinned (OpenSpec.ofChange fnExactIsTakeOfSpec)

/-- ITS FALSE NEIGHBOUR: 'it returns false'. Refute it at one input. -/
def fnExactIsTakeOfWrong : ChangeSpec := { name := "fnExactIsTakeOf", fn := fun _ => fun
  | [d1, d2, d3] => { results := [.lit (.bool false)], args := [d1, d2, d3] }
  | _ => none }
def FnExactIsTakeOfWrongFalsely : Prop := fnExactIsTakeOfRow.holds Try.pinned (OpenSpec.ofChange fnExactIsTakeOfWrong)

/-- 'laws.FnExactCountRectangles': WHATEVER THE INPUT: true; the input reads as it did. -/
def fnExactCountRectanglesSpec : ChangeSpec := { name := "fnExactCountRectangles", fn := fun _ => fun
  | [d] => { results := [.lit (.bool true)], args := [d] }
  | _ => none }
def fnExactCountRectanglesRow : OpenClaim := { program := "ytkllomnelknpaaa", sum := "c19c8999272cab48b814ec2c18ca30cab34648b4bdee61d3e1499153075723ed", func := "loop.example/g01233/laws.FnExactCountRectangles", spec := "fnExactCountRectangles", unfollowed := true, recurses := true, apart := false }
def FnExactCountRectanglesSaid : Prop := fnExactCountRectanglesRow.holds Try.pinned (OpenSpec.ofChange fnExactCountRectanglesSpec)

/-- ITS FALSE NEIGHBOUR: 'it returns false'. Refute it at one input. -/
def fnExactCountRectanglesWrong : ChangeSpec := { name := "fnExactCountRectangles", fn := fun _ => fun
  | [d] => { results := [.lit (.bool false)], args := [d] }
  | _ => none }
def FnExactCountRectanglesWrongFalsely : Prop := fnExactCountRectanglesRow.holds Try.pinned (OpenSpec.ofChange fnExactCountRectanglesWrong)

/-- 'laws.FnExactFullCells': WHATEVER THE INPUT: true; the input reads as it did. -/
def fnExactFullCellsSpec : ChangeSpec := { name := "fnExactFullCells", fn := fun _ => fun
  | [d] => { results := [.lit (.bool true)], args := [d] }
  | _ => none }
def fnExactFullCellsRow : OpenClaim := { program := "ytkllomnelknpaaa", sum := "c19c8999272cab48b814ec2c18ca30cab34648b4bdee61d3e1499153075723ed", func := "loop.example/g01233/laws.FnExactFullCells", spec := "fnExactFullCells", unfollowed := true, recurses := true, apart := false }
def FnExactFullCellsSaid : Prop := fnExactFullCellsRow.holds Try.pinned (OpenSpec.ofChange fnExactFullCellsSpec)

/-- ITS FALSE NEIGHBOUR: 'it returns false'. Refute it at one input. -/
def fnExactFullCellsWrong : ChangeSpec := { name := "fnExactFullCells", fn := fun _ => fun
  | [d] => { results := [.lit (.bool false)], args := [d] }
  | _ => none }
def FnExactFullCellsWrongFalsely : Prop := fnExactFullCellsRow.holds Try.pinned (OpenSpec.ofChange fnExactFullCellsWrong)

/-- 'laws.FnExactIsSquareAt': WHATEVER THE INPUT: true; the input reads as it did. -/
def fnExactIsSquareAtSpec : ChangeSpec := { name := "fnExactIsSquareAt", fn := fun _ => fun
  | [d1, d2, d3, d4] => { results := [.lit (.bool true)], args := [d1, d2, d3, d4] }
  | _ => none }
def fnExactIsSquareAtRow : OpenClaim := { program := "ytkllomnelknpaaa", sum := "c19c8999272cab48b814ec2c18ca30cab34648b4bdee61d3e1499153075723ed", func := "loop.example/g01233/laws.FnExactIsSquareAt", spec := "fnExactIsSquareAt", unfollowed := true, recurses := true, apart := false }
def FnExactIsSquareAtSaid : Prop := fnExactIsSquareAtRow.holds Try.pinned (OpenSpec.ofChange fnExactIsSquareAtSpec)

/-- ITS FALSE NEIGHBOUR: 'it returns false'. Refute it at one input. -/
def fnExactIsSquareAtWrong : ChangeSpec := { name := "fnExactIsSquareAt", fn := fun _ => fun
  | [d1, d2, d3, d4] => { results := [.lit (.bool false)], args := [d1, d2, d3, d4] }
  | _ => none }
def FnExactIsSquareAtWrongFalsely : Prop := fnExactIsSquareAtRow.holds Try.pinned (OpenSpec.ofChange fnExactIsSquareAtWrong)

/- THE SECOND FORM. 'bulk': how many values and letters a reading holds, each counted each time it is reached (what is shared counts as often as it is met; a slice's spare places count too). A statement '..UptoSaid' is the law's where the arguments, and the package variables that the reading takes, are together of bulk at most 1048576: NARROWER than '..Said'. Prove '..Said' where nothing that the law and all that it calls make is longer than what came in: it says more and counts as full. Else prove '..UptoSaid'. A law counts once. -/
mutual
def uptoBulk {H : Type} : DataW H → Nat
  | .lit (.string bytes) => bytes.length + 1
  | .lit _ => 1
  | .nil => 1
  | .ptr d => uptoBulk d + 1
  | .slice elems spare => uptoBulkAll elems + uptoBulkAll spare + 1
  | .agg parts => uptoBulkAll parts + 1
  | .iface _ d => uptoBulk d + 1
  | .map entries => uptoBulkEntries entries + 1
  | .held _ => 1
def uptoBulkAll {H : Type} : List (DataW H) → Nat
  | [] => 0
  | d :: r => uptoBulk d + uptoBulkAll r
def uptoBulkEntries {H : Type} : List (Lit × DataW H) → Nat
  | [] => 0
  | x :: r => uptoBulkEntry x + uptoBulkEntries r
def uptoBulkEntry {H : Type} : Lit × DataW H → Nat
  | (.string bytes, d) => bytes.length + uptoBulk d + 1
  | (_, d) => uptoBulk d + 1
 end
def uptoSmall : (H : Type) → List (DataW H) → Bool := fun _ ds => decide (uptoBulkAll ds ≤ 1048576)
def OpenSpec.upto (s : _root_.Go.ChangeSpec) : _root_.Go.OpenSpec := { _root_.Go.OpenSpec.ofChange s with cond := some uptoSmall }

/-- 'laws.FnExactIsFigure', WHERE WHAT IT READS IS OF BULK AT MOST 1048576: true; the input reads as it did. -/
def fnExactIsFigureUptoRow : OpenClaim := { program := "ytkllomnelknpaaa", sum := "c19c8999272cab48b814ec2c18ca30cab34648b4bdee61d3e1499153075723ed", func := "loop.example/g01233/laws.FnExactIsFigure", spec := "fnExactIsFigure", unfollowed := true, recurses := true, apart := false, narrowed := true }
def FnExactIsFigureUptoSaid : Prop := fnExactIsFigureUptoRow.holds Try.pinned (OpenSpec.upto fnExactIsFigureSpec)

/-- 'laws.FnExactMostSquaresWith', WHERE WHAT IT READS IS OF BULK AT MOST 1048576: true; the input reads as it did. -/
def fnExactMostSquaresWithUptoRow : OpenClaim := { program := "ytkllomnelknpaaa", sum := "c19c8999272cab48b814ec2c18ca30cab34648b4bdee61d3e1499153075723ed", func := "loop.example/g01233/laws.FnExactMostSquaresWith", spec := "fnExactMostSquaresWith", apart := false, narrowed := true }
def FnExactMostSquaresWithUptoSaid : Prop := fnExactMostSquaresWithUptoRow.holds Try.pinned (OpenSpec.upto fnExactMostSquaresWithSpec)

/-- 'laws.FnExactCountMatches', WHERE WHAT IT READS IS OF BULK AT MOST 1048576: true; the input reads as it did. -/
def fnExactCountMatchesUptoRow : OpenClaim := { program := "ytkllomnelknpaaa", sum := "c19c8999272cab48b814ec2c18ca30cab34648b4bdee61d3e1499153075723ed", func := "loop.example/g01233/laws.FnExactCountMatches", spec := "fnExactCountMatches", unfollowed := true, recurses := true, apart := false, narrowed := true }
def FnExactCountMatchesUptoSaid : Prop := fnExactCountMatchesUptoRow.holds Try.pinned (OpenSpec.upto fnExactCountMatchesSpec)

/-- 'laws.FnExactHasMatch', WHERE WHAT IT READS IS OF BULK AT MOST 1048576: true; the input reads as it did. -/
def fnExactHasMatchUptoRow : OpenClaim := { program := "ytkllomnelknpaaa", sum := "c19c8999272cab48b814ec2c18ca30cab34648b4bdee61d3e1499153075723ed", func := "loop.example/g01233/laws.FnExactHasMatch", spec := "fnExactHasMatch", unfollowed := true, recurses := true, apart := false, narrowed := true }
def FnExactHasMatchUptoSaid : Prop := fnExactHasMatchUptoRow.holds Try.pinned (OpenSpec.upto fnExactHasMatchSpec)

/-- 'laws.FnExactMovesBetween', WHERE WHAT IT READS IS OF BULK AT MOST 1048576: true; the input reads as it did. -/
def fnExactMovesBetweenUptoRow : OpenClaim := { program := "ytkllomnelknpaaa", sum := "c19c8999272cab48b814ec2c18ca30cab34648b4bdee61d3e1499153075723ed", func := "loop.example/g01233/laws.FnExactMovesBetween", spec := "fnExactMovesBetween", unfollowed := true, recurses := true, apart := false, narrowed := true }
def FnExactMovesBetweenUptoSaid : Prop := fnExactMovesBetweenUptoRow.holds Try.pinned (OpenSpec.upto fnExactMovesBetweenSpec)

/-- 'laws.FnExactIsMoveOf', WHERE WHAT IT READS IS OF BULK AT MOST 1048576: true; the input reads as it did. -/
def fnExactIsMoveOfUptoRow : OpenClaim := { program := "ytkllomnelknpaaa", sum := "c19c8999272cab48b814ec2c18ca30cab34648b4bdee61d3e1499153075723ed", func := "loop.example/g01233/laws.FnExactIsMoveOf", spec := "fnExactIsMoveOf", unfollowed := true, recurses := true, apart := false, narrowed := true }
def FnExactIsMoveOfUptoSaid : Prop := fnExactIsMoveOfUptoRow.holds Try.pinned (OpenSpec.upto fnExactIsMoveOfSpec)

/-- 'laws.FnExactIsTakeOf', WHERE WHAT IT READS IS OF BULK AT MOST 1048576: true; the input reads as it did. -/
def fnExactIsTakeOfUptoRow : OpenClaim := { program := "ytkllomnelknpaaa", sum := "c19c8999272cab48b814ec2c18ca30cab34648b4bdee61d3e1499153075723ed", func := "loop.example/g01233/laws.FnExactIsTakeOf", spec := "fnExactIsTakeOf", unfollowed := true, recurses := true, apart := false, narrowed := true }
def FnExactIsTakeOfUptoSaid : Prop := fnExactIsTakeOfUptoRow.holds Try.pinned (OpenSpec.upto fnExactIsTakeOfSpec)

/-- 'laws.FnExactCountRectangles', WHERE WHAT IT READS IS OF BULK AT MOST 1048576: true; the input reads as it did. -/
def fnExactCountRectanglesUptoRow : OpenClaim := { program := "ytkllomnelknpaaa", sum := "c19c8999272cab48b814ec2c18ca30cab34648b4bdee61d3e1499153075723ed", func := "loop.example/g01233/laws.FnExactCountRectangles", spec := "fnExactCountRectangles", unfollowed := true, recurses := true, apart := false, narrowed := true }
def FnExactCountRectanglesUptoSaid : Prop := fnExactCountRectanglesUptoRow.holds Try.pinned (OpenSpec.upto fnExactCountRectanglesSpec)

/-- 'laws.FnExactFullCells', WHERE WHAT IT READS IS OF BULK AT MOST 1048576: true; the input reads as it did. -/
def fnExactFullCellsUptoRow : OpenClaim := { program := "ytkllomnelknpaaa", sum := "c19c8999272cab48b814ec2c18ca30cab34648b4bdee61d3e1499153075723ed", func := "loop.example/g01233/laws.FnExactFullCells", spec := "fnExactFullCells", unfollowed := true, recurses := true, apart := false, narrowed := true }
def FnExactFullCellsUptoSaid : Prop := fnExactFullCellsUptoRow.holds Try.pinned (OpenSpec.upto fnExactFullCellsSpec)

/-- 'laws.FnExactIsSquareAt', WHERE WHAT IT READS IS OF BULK AT MOST 1048576: true; the input reads as it did. -/
def fnExactIsSquareAtUptoRow : OpenClaim := { program := "ytkllomnelknpaaa", sum := "c19c8999272cab48b814ec2c18ca30cab34648b4bdee61d3e1499153075723ed", func := "loop.example/g01233/laws.FnExactIsSquareAt", spec := "fnExactIsSquareAt", unfollowed := true, recurses := true, apart := false, narrowed := true }
def FnExactIsSquareAtUptoSaid : Prop := fnExactIsSquareAtUptoRow.holds Try.pinned (OpenSpec.upto fnExactIsSquareAtSpec)

end Rows
end Go.Proofs.Ytkllomnelknpaaa
