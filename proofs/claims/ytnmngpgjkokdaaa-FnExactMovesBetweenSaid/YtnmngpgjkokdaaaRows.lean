/-
  No cell of these rows narrows 'for every input' (looked for: loops, veiled, ifaces, maps, wideKeys, modest, calm, conditions, laid).
  DERIVED. THE GIVEN ROWS OF THIS SEAT. 3 by the template 'for every input the law returns true; each argument reads behind the call as it read before'; 0 by the template 'total and deterministic' (their statements: YtnmngpgjkokdaaaTotals.lean).
  GIVEN WITH THE SEED: the statements are not yours to turn. If you find one false, say at which input.
  Laid BY PROGRAM, IN A SANDBOX (cutbox-rows.mjs): the forced cells as the released guide's own fill.sh prints them over the translation f761ad57fcbd6fa6… (all of the seat's roots in one cut). By AI agents, Wed Nov 11 2026. No macro, syntax, notation, axiom, sorry.
-/
import Derived.Test.YtnmngpgjkokdaaaChecked
import GoSem.Claim
import GoSem.ClaimJoined
import GoSem.ClaimMapViews
import Derived.JoinedTies
import Derived.KernelRfl
namespace Go.Proofs.Ytnmngpgjkokdaaa
/- THE CELL 'sum', in the pinned program and in every row, IS THE sha256 OF THE DUMP (.gsa) THAT YtnmngpgjkokdaaaProg.lean LOADS. Nothing in Lean hashes anything: it is a label: what it is worth is what the hold of that sum in a sandbox is worth. -/
noncomputable def Try.pinned : Pinned := { name := "ytnmngpgjkokdaaa", sum := "f761ad57fcbd6fa6c587f8dfdcfb6cff56d296385260173ea8005ee59583e6c3", checked := Try.checked }
namespace Rows
def none {H : Type} : Left H := { results := [], args := [] }

/-- 'laws.FnExactIsTakeOf': WHATEVER THE INPUT: true; the input reads as it did. -/
def fnExactIsTakeOfSpec : ChangeSpec := { name := "fnExactIsTakeOf", fn := fun _ => fun
  | [d1, d2, d3] => { results := [.lit (.bool true)], args := [d1, d2, d3] }
  | _ => none }
def fnExactIsTakeOfRow : OpenClaim := { program := "ytnmngpgjkokdaaa", sum := "f761ad57fcbd6fa6c587f8dfdcfb6cff56d296385260173ea8005ee59583e6c3", func := "loop.example/g01233/laws.FnExactIsTakeOf", spec := "fnExactIsTakeOf", unfollowed := true, recurses := true, apart := false }
def FnExactIsTakeOfSaid : Prop := fnExactIsTakeOfRow.holds Try.pinned (OpenSpec.ofChange fnExactIsTakeOfSpec)

/-- ITS FALSE NEIGHBOUR: 'it returns false'. Refute it at one input. -/
def fnExactIsTakeOfWrong : ChangeSpec := { name := "fnExactIsTakeOf", fn := fun _ => fun
  | [d1, d2, d3] => { results := [.lit (.bool false)], args := [d1, d2, d3] }
  | _ => none }
def FnExactIsTakeOfWrongFalsely : Prop := fnExactIsTakeOfRow.holds Try.pinned (OpenSpec.ofChange fnExactIsTakeOfWrong)

/-- 'laws.FnExactIsMoveOf': WHATEVER THE INPUT: true; the input reads as it did. -/
def fnExactIsMoveOfSpec : ChangeSpec := { name := "fnExactIsMoveOf", fn := fun _ => fun
  | [d1, d2, d3] => { results := [.lit (.bool true)], args := [d1, d2, d3] }
  | _ => none }
def fnExactIsMoveOfRow : OpenClaim := { program := "ytnmngpgjkokdaaa", sum := "f761ad57fcbd6fa6c587f8dfdcfb6cff56d296385260173ea8005ee59583e6c3", func := "loop.example/g01233/laws.FnExactIsMoveOf", spec := "fnExactIsMoveOf", unfollowed := true, recurses := true, apart := false }
def FnExactIsMoveOfSaid : Prop := fnExactIsMoveOfRow.holds Try.pinned (OpenSpec.ofChange fnExactIsMoveOfSpec)

/-- ITS FALSE NEIGHBOUR: 'it returns false'. Refute it at one input. -/
def fnExactIsMoveOfWrong : ChangeSpec := { name := "fnExactIsMoveOf", fn := fun _ => fun
  | [d1, d2, d3] => { results := [.lit (.bool false)], args := [d1, d2, d3] }
  | _ => none }
def FnExactIsMoveOfWrongFalsely : Prop := fnExactIsMoveOfRow.holds Try.pinned (OpenSpec.ofChange fnExactIsMoveOfWrong)

/-- 'laws.FnExactMovesBetween': WHATEVER THE INPUT: true; the input reads as it did. -/
def fnExactMovesBetweenSpec : ChangeSpec := { name := "fnExactMovesBetween", fn := fun _ => fun
  | [d1, d2] => { results := [.lit (.bool true)], args := [d1, d2] }
  | _ => none }
def fnExactMovesBetweenRow : OpenClaim := { program := "ytnmngpgjkokdaaa", sum := "f761ad57fcbd6fa6c587f8dfdcfb6cff56d296385260173ea8005ee59583e6c3", func := "loop.example/g01233/laws.FnExactMovesBetween", spec := "fnExactMovesBetween", unfollowed := true, recurses := true, apart := false }
def FnExactMovesBetweenSaid : Prop := fnExactMovesBetweenRow.holds Try.pinned (OpenSpec.ofChange fnExactMovesBetweenSpec)

/-- ITS FALSE NEIGHBOUR: 'it returns false'. Refute it at one input. -/
def fnExactMovesBetweenWrong : ChangeSpec := { name := "fnExactMovesBetween", fn := fun _ => fun
  | [d1, d2] => { results := [.lit (.bool false)], args := [d1, d2] }
  | _ => none }
def FnExactMovesBetweenWrongFalsely : Prop := fnExactMovesBetweenRow.holds Try.pinned (OpenSpec.ofChange fnExactMovesBetweenWrong)

/- THE SECOND FORM. 'bulk': how many values and letters a reading holds, each counted each time it is reached (what is shared counts as often as it is met; a slice's spare places count too). A statement '..UptoSaid' is the law's where the arguments, and the package variables that the reading takes, are together of bulk at most 1048576: NARROWER than '..Said'. Prove '..Said' where nothing that the law and all that it calls make is longer than what came in: it says more and counts as full. Else prove '..UptoSaid'. A law counts once. -/
mutual
def uptoBulk {H : Type} : DataW H → Nat
  | .lit (.string bytes) => bytes.length + 1
  | .lit _ => 1
  | .nil => 1
  | .ptr d => uptoBulk d + 1
  | .slice elems spare => uptoBulkAll elems + uptoBulkAll spare + 1
  | .agg parts => uptoBulkAll parts + 1
  | .iface _ d => uptoBulk d + 1
  | .map entries => uptoBulkEntries entries + 1
  | .held _ => 1
def uptoBulkAll {H : Type} : List (DataW H) → Nat
  | [] => 0
  | d :: r => uptoBulk d + uptoBulkAll r
def uptoBulkEntries {H : Type} : List (Lit × DataW H) → Nat
  | [] => 0
  | x :: r => uptoBulkEntry x + uptoBulkEntries r
def uptoBulkEntry {H : Type} : Lit × DataW H → Nat
  | (.string bytes, d) => bytes.length + uptoBulk d + 1
  | (_, d) => uptoBulk d + 1
 end
def uptoSmall : (H : Type) → List (DataW H) → Bool := fun _ ds => decide (uptoBulkAll ds ≤ 1048576)
def OpenSpec.upto (s : _root_.Go.ChangeSpec) : _root_.Go.OpenSpec := { _root_.Go.OpenSpec.ofChange s with cond := some uptoSmall }

/-- 'laws.FnExactIsTakeOf', WHERE WHAT IT READS IS OF BULK AT MOST 1048576: true; the input reads as it did. -/
def fnExactIsTakeOfUptoRow : OpenClaim := { program := "ytnmngpgjkokdaaa", sum := "f761ad57fcbd6fa6c587f8dfdcfb6cff56d296385260173ea8005ee59583e6c3", func := "loop.example/g01233/laws.FnExactIsTakeOf", spec := "fnExactIsTakeOf", unfollowed := true, recurses := true, apart := false, narrowed := true }
def FnExactIsTakeOfUptoSaid : Prop := fnExactIsTakeOfUptoRow.holds Try.pinned (OpenSpec.upto fnExactIsTakeOfSpec)

/-- 'laws.FnExactIsMoveOf', WHERE WHAT IT READS IS OF BULK AT MOST 1048576: true; the input reads as it did. -/
def fnExactIsMoveOfUptoRow : OpenClaim := { program := "ytnmngpgjkokdaaa", sum := "f761ad57fcbd6fa6c587f8dfdcfb6cff56d296385260173ea8005ee59583e6c3", func := "loop.example/g01233/laws.FnExactIsMoveOf", spec := "fnExactIsMoveOf", unfollowed := true, recurses := true, apart := false, narrowed := true }
def FnExactIsMoveOfUptoSaid : Prop := fnExactIsMoveOfUptoRow.holds Try.pinned (OpenSpec.upto fnExactIsMoveOfSpec)

/-- 'laws.FnExactMovesBetween', WHERE WHAT IT READS IS OF BULK AT MOST 1048576: true; the input reads as it did. -/
def fnExactMovesBetweenUptoRow : OpenClaim := { program := "ytnmngpgjkokdaaa", sum := "f761ad57fcbd6fa6c587f8dfdcfb6cff56d296385260173ea8005ee59583e6c3", func := "loop.example/g01233/laws.FnExactMovesBetween", spec := "fnExactMovesBetween", unfollowed := true, recurses := true, apart := false, narrowed := true }
def FnExactMovesBetweenUptoSaid : Prop := fnExactMovesBetweenUptoRow.holds Try.pinned (OpenSpec.upto fnExactMovesBetweenSpec)

end Rows
end Go.Proofs.Ytnmngpgjkokdaaa
