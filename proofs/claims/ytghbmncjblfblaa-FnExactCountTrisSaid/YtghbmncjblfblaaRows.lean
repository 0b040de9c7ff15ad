/-
  No cell of these rows narrows 'for every input' (looked for: loops, veiled, ifaces, maps, wideKeys, modest, calm, conditions, laid).
  DERIVED. THE GIVEN ROWS OF THIS SEAT. 8 by the template 'for every input the law returns true; each argument reads behind the call as it read before'; 0 by the template 'total and deterministic' (their statements: YtghbmncjblfblaaTotals.lean).
  GIVEN WITH THE SEED: the statements are not yours to turn. If you find one false, say at which input.
  Laid BY PROGRAM, IN A SANDBOX (cutbox-rows.mjs): the forced cells as the released guide's own fill.sh prints them over the translation e1aa9bc1e3a29abf… (all of the seat's roots in one cut). By AI agents, Wed Nov 11 2026. No macro, syntax, notation, axiom, sorry.
-/
import Derived.Test.YtghbmncjblfblaaChecked
import GoSem.Claim
import GoSem.ClaimJoined
import GoSem.ClaimMapViews
import Derived.JoinedTies
import Derived.KernelRfl
namespace Go.Proofs.Ytghbmncjblfblaa
/- THE CELL 'sum', in the pinned program and in every row, IS THE sha256 OF THE DUMP (.gsa) THAT YtghbmncjblfblaaProg.lean LOADS. Nothing in Lean hashes anything: it is a label: what it is worth is what the hold of that sum in a sandbox is worth. -/
noncomputable def Try.pinned : Pinned := { name := "ytghbmncjblfblaa", sum := "e1aa9bc1e3a29abfdeabbdf63b260c44d0b6d7fbf9f6d9ba6fe7339754272b06", checked := Try.checked }
namespace Rows
def none {H : Type} : Left H := { results := [], args := [] }

/-- 'laws.FnExactIsTri': WHATEVER THE INPUT: true; the input reads as it did. -/
def fnExactIsTriSpec : ChangeSpec := { name := "fnExactIsTri", fn := fun _ => fun
  | [d] => { results := [.lit (.bool true)], args := [d] }
  | _ => none }
def fnExactIsTriRow : OpenClaim := { program := "ytghbmncjblfblaa", sum := "e1aa9bc1e3a29abfdeabbdf63b260c44d0b6d7fbf9f6d9ba6fe7339754272b06", func := "loop.example/g01233/laws.FnExactIsTri", spec := "fnExactIsTri", unfollowed := true, recurses := true, apart := false }
def FnExactIsTriSaid : Prop := fnExactIsTriRow.holds Try.pinned (OpenSpec.ofChange fnExactIsTriSpec)

/-- ITS FALSE NEIGHBOUR: 'it returns false'. Refute it at one input. -/
def fnExactIsTriWrong : ChangeSpec := { name := "fnExactIsTri", fn := fun _ => fun
  | [d] => { results := [.lit (.bool false)], args := [d] }
  | _ => none }
def FnExactIsTriWrongFalsely : Prop := fnExactIsTriRow.holds Try.pinned (OpenSpec.ofChange fnExactIsTriWrong)

/-- 'laws.FnExactHasTriEdge': WHATEVER THE INPUT: true; the input reads as it did. -/
def fnExactHasTriEdgeSpec : ChangeSpec := { name := "fnExactHasTriEdge", fn := fun _ => fun
  | [d1, d2, d3, d4] => { results := [.lit (.bool true)], args := [d1, d2, d3, d4] }
  | _ => none }
def fnExactHasTriEdgeRow : OpenClaim := { program := "ytghbmncjblfblaa", sum := "e1aa9bc1e3a29abfdeabbdf63b260c44d0b6d7fbf9f6d9ba6fe7339754272b06", func := "loop.example/g01233/laws.FnExactHasTriEdge", spec := "fnExactHasTriEdge", unfollowed := true, recurses := true, apart := false }
def FnExactHasTriEdgeSaid : Prop := fnExactHasTriEdgeRow.holds Try.pinned (OpenSpec.ofChange fnExactHasTriEdgeSpec)

/-- ITS FALSE NEIGHBOUR: 'it returns false'. Refute it at one input. -/
def fnExactHasTriEdgeWrong : ChangeSpec := { name := "fnExactHasTriEdge", fn := fun _ => fun
  | [d1, d2, d3, d4] => { results := [.lit (.bool false)], args := [d1, d2, d3, d4] }
  | _ => none }
def FnExactHasTriEdgeWrongFalsely : Prop := fnExactHasTriEdgeRow.holds Try.pinned (OpenSpec.ofChange fnExactHasTriEdgeWrong)

/-- 'laws.FnExactCountHanging': WHATEVER THE INPUT: true; the input reads as it did. -/
def fnExactCountHangingSpec : ChangeSpec := { name := "fnExactCountHanging", fn := fun _ => fun
  | [d] => { results := [.lit (.bool true)], args := [d] }
  | _ => none }
def fnExactCountHangingRow : OpenClaim := { program := "ytghbmncjblfblaa", sum := "e1aa9bc1e3a29abfdeabbdf63b260c44d0b6d7fbf9f6d9ba6fe7339754272b06", func := "loop.example/g01233/laws.FnExactCountHanging", spec := "fnExactCountHanging", unfollowed := true, recurses := true, apart := false }
def FnExactCountHangingSaid : Prop := fnExactCountHangingRow.holds Try.pinned (OpenSpec.ofChange fnExactCountHangingSpec)

/-- ITS FALSE NEIGHBOUR: 'it returns false'. Refute it at one input. -/
def fnExactCountHangingWrong : ChangeSpec := { name := "fnExactCountHanging", fn := fun _ => fun
  | [d] => { results := [.lit (.bool false)], args := [d] }
  | _ => none }
def FnExactCountHangingWrongFalsely : Prop := fnExactCountHangingRow.holds Try.pinned (OpenSpec.ofChange fnExactCountHangingWrong)

/-- 'laws.FnExactCountStanding': WHATEVER THE INPUT: true; the input reads as it did. -/
def fnExactCountStandingSpec : ChangeSpec := { name := "fnExactCountStanding", fn := fun _ => fun
  | [d] => { results := [.lit (.bool true)], args := [d] }
  | _ => none }
def fnExactCountStandingRow : OpenClaim := { program := "ytghbmncjblfblaa", sum := "e1aa9bc1e3a29abfdeabbdf63b260c44d0b6d7fbf9f6d9ba6fe7339754272b06", func := "loop.example/g01233/laws.FnExactCountStanding", spec := "fnExactCountStanding", unfollowed := true, recurses := true, apart := false }
def FnExactCountStandingSaid : Prop := fnExactCountStandingRow.holds Try.pinned (OpenSpec.ofChange fnExactCountStandingSpec)

/-- ITS FALSE NEIGHBOUR: 'it returns false'. Refute it at one input. -/
def fnExactCountStandingWrong : ChangeSpec := { name := "fnExactCountStanding", fn := fun _ => fun
  | [d] => { results := [.lit (.bool false)], args := [d] }
  | _ => none }
def FnExactCountStandingWrongFalsely : Prop := fnExactCountStandingRow.holds Try.pinned (OpenSpec.ofChange fnExactCountStandingWrong)

/-- 'laws.FnExactCountTris': WHATEVER THE INPUT: true; the input reads as it did. -/
def fnExactCountTrisSpec : ChangeSpec := { name := "fnExactCountTris", fn := fun _ => fun
  | [d] => { results := [.lit (.bool true)], args := [d] }
  | _ => none }
def fnExactCountTrisRow : OpenClaim := { program := "ytghbmncjblfblaa", sum := "e1aa9bc1e3a29abfdeabbdf63b260c44d0b6d7fbf9f6d9ba6fe7339754272b06", func := "loop.example/g01233/laws.FnExactCountTris", spec := "fnExactCountTris", unfollowed := true, recurses := true, apart := false }
def FnExactCountTrisSaid : Prop := fnExactCountTrisRow.holds Try.pinned (OpenSpec.ofChange fnExactCountTrisSpec)

/-- ITS FALSE NEIGHBOUR: 'it returns false'. Refute it at one input. -/
def fnExactCountTrisWrong : ChangeSpec := { name := "fnExactCountTris", fn := fun _ => fun
  | [d] => { results := [.lit (.bool false)], args := [d] }
  | _ => none }
def FnExactCountTrisWrongFalsely : Prop := fnExactCountTrisRow.holds Try.pinned (OpenSpec.ofChange fnExactCountTrisWrong)

/-- 'laws.FnExactTriText': WHATEVER THE INPUT: true; the input reads as it did. -/
def fnExactTriTextSpec : ChangeSpec := { name := "fnExactTriText", fn := fun _ => fun
  | [d] => { results := [.lit (.bool true)], args := [d] }
  | _ => none }
def fnExactTriTextRow : OpenClaim := { program := "ytghbmncjblfblaa", sum := "e1aa9bc1e3a29abfdeabbdf63b260c44d0b6d7fbf9f6d9ba6fe7339754272b06", func := "loop.example/g01233/laws.FnExactTriText", spec := "fnExactTriText", inPlace := ["internal/abi.NoEscape", "internal/bytealg.MakeNoZero"], unfollowed := true, recurses := true, apart := false }
def FnExactTriTextSaid : Prop := fnExactTriTextRow.holds Try.pinned (OpenSpec.ofChange fnExactTriTextSpec)

/-- ITS FALSE NEIGHBOUR: 'it returns false'. Refute it at one input. -/
def fnExactTriTextWrong : ChangeSpec := { name := "fnExactTriText", fn := fun _ => fun
  | [d] => { results := [.lit (.bool false)], args := [d] }
  | _ => none }
def FnExactTriTextWrongFalsely : Prop := fnExactTriTextRow.holds Try.pinned (OpenSpec.ofChange fnExactTriTextWrong)

/-- 'laws.FnExactHangingOf': WHATEVER THE INPUT: true; the input reads as it did. -/
def fnExactHangingOfSpec : ChangeSpec := { name := "fnExactHangingOf", fn := fun _ => fun
  | [d] => { results := [.lit (.bool true)], args := [d] }
  | _ => none }
def fnExactHangingOfRow : OpenClaim := { program := "ytghbmncjblfblaa", sum := "e1aa9bc1e3a29abfdeabbdf63b260c44d0b6d7fbf9f6d9ba6fe7339754272b06", func := "loop.example/g01233/laws.FnExactHangingOf", spec := "fnExactHangingOf", unfollowed := true, recurses := true, apart := false }
def FnExactHangingOfSaid : Prop := fnExactHangingOfRow.holds Try.pinned (OpenSpec.ofChange fnExactHangingOfSpec)

/-- ITS FALSE NEIGHBOUR: 'it returns false'. Refute it at one input. -/
def fnExactHangingOfWrong : ChangeSpec := { name := "fnExactHangingOf", fn := fun _ => fun
  | [d] => { results := [.lit (.bool false)], args := [d] }
  | _ => none }
def FnExactHangingOfWrongFalsely : Prop := fnExactHangingOfRow.holds Try.pinned (OpenSpec.ofChange fnExactHangingOfWrong)

/-- 'laws.FnExactStandingOf': WHATEVER THE INPUT: true; the input reads as it did. -/
def fnExactStandingOfSpec : ChangeSpec := { name := "fnExactStandingOf", fn := fun _ => fun
  | [d] => { results := [.lit (.bool true)], args := [d] }
  | _ => none }
def fnExactStandingOfRow : OpenClaim := { program := "ytghbmncjblfblaa", sum := "e1aa9bc1e3a29abfdeabbdf63b260c44d0b6d7fbf9f6d9ba6fe7339754272b06", func := "loop.example/g01233/laws.FnExactStandingOf", spec := "fnExactStandingOf", unfollowed := true, recurses := true, apart := false }
def FnExactStandingOfSaid : Prop := fnExactStandingOfRow.holds Try.pinned (OpenSpec.ofChange fnExactStandingOfSpec)

/-- ITS FALSE NEIGHBOUR: 'it returns false'. Refute it at one input. -/
def fnExactStandingOfWrong : ChangeSpec := { name := "fnExactStandingOf", fn := fun _ => fun
  | [d] => { results := [.lit (.bool false)], args := [d] }
  | _ => none }
def FnExactStandingOfWrongFalsely : Prop := fnExactStandingOfRow.holds Try.pinned (OpenSpec.ofChange fnExactStandingOfWrong)

/- THE SECOND FORM. 'bulk': how many values and letters a reading holds, each counted each time it is reached (what is shared counts as often as it is met; a slice's spare places count too). A statement '..UptoSaid' is the law's where the arguments, and the package variables that the reading takes, are together of bulk at most 1048576: NARROWER than '..Said'. Prove '..Said' where nothing that the law and all that it calls make is longer than what came in: it says more and counts as full. Else prove '..UptoSaid'. A law counts once. -/
mutual
def uptoBulk {H : Type} : DataW H → Nat
  | .lit (.string bytes) => bytes.length + 1
  | .lit _ => 1
  | .nil => 1
  | .ptr d => uptoBulk d + 1
  | .slice elems spare => uptoBulkAll elems + uptoBulkAll spare + 1
  | .agg parts => uptoBulkAll parts + 1
  | .iface _ d => uptoBulk d + 1
  | .map entries => uptoBulkEntries entries + 1
  | .held _ => 1
def uptoBulkAll {H : Type} : List (DataW H) → Nat
  | [] => 0
  | d :: r => uptoBulk d + uptoBulkAll r
def uptoBulkEntries {H : Type} : List (Lit × DataW H) → Nat
  | [] => 0
  | x :: r => uptoBulkEntry x + uptoBulkEntries r
def uptoBulkEntry {H : Type} : Lit × DataW H → Nat
  | (.string bytes, d) => bytes.length + uptoBulk d + 1
  | (_, d) => uptoBulk d + 1
 end
def uptoSmall : (H : Type) → List (DataW H) → Bool := fun _ ds => decide (uptoBulkAll ds ≤ 1048576)
def OpenSpec.upto (s : _root_.Go.ChangeSpec) : _root_.Go.OpenSpec := { _root_.Go.OpenSpec.ofChange s with cond := some uptoSmall }

/-- 'laws.FnExactIsTri', WHERE WHAT IT READS IS OF BULK AT MOST 1048576: true; the input reads as it did. -/
def fnExactIsTriUptoRow : OpenClaim := { program := "ytghbmncjblfblaa", sum := "e1aa9bc1e3a29abfdeabbdf63b260c44d0b6d7fbf9f6d9ba6fe7339754272b06", func := "loop.example/g01233/laws.FnExactIsTri", spec := "fnExactIsTri", unfollowed := true, recurses := true, apart := false, narrowed := true }
def FnExactIsTriUptoSaid : Prop := fnExactIsTriUptoRow.holds Try.pinned (OpenSpec.upto fnExactIsTriSpec)

/-- 'laws.FnExactHasTriEdge', WHERE WHAT IT READS IS OF BULK AT MOST 1048576: true; the input reads as it did. -/
def fnExactHasTriEdgeUptoRow : OpenClaim := { program := "ytghbmncjblfblaa", sum := "e1aa9bc1e3a29abfdeabbdf63b260c44d0b6d7fbf9f6d9ba6fe7339754272b06", func := "loop.example/g01233/laws.FnExactHasTriEdge", spec := "fnExactHasTriEdge", unfollowed := true, recurses := true, apart := false, narrowed := true }
def FnExactHasTriEdgeUptoSaid : Prop := fnExactHasTriEdgeUptoRow.holds Try.pinned (OpenSpec.upto fnExactHasTriEdgeSpec)

/-- 'laws.FnExactCountHanging', WHERE WHAT IT READS IS OF BULK AT MOST 1048576: true; the input reads as it did. -/
def fnExactCountHangingUptoRow : OpenClaim := { program := "ytghbmncjblfblaa", sum := "e1aa9bc1e3a29abfdeabbdf63b260c44d0b6d7fbf9f6d9ba6fe7339754272b06", func := "loop.example/g01233/laws.FnExactCountHanging", spec := "fnExactCountHanging", unfollowed := true, recurses := true, apart := false, narrowed := true }
def FnExactCountHangingUptoSaid : Prop := fnExactCountHangingUptoRow.holds Try.pinned (OpenSpec.upto fnExactCountHangingSpec)

/-- 'laws.FnExactCountStanding', WHERE WHAT IT READS IS OF BULK AT MOST 1048576: true; the input reads as it did. -/
def fnExactCountStandingUptoRow : OpenClaim := { program := "ytghbmncjblfblaa", sum := "e1aa9bc1e3a29abfdeabbdf63b260c44d0b6d7fbf9f6d9ba6fe7339754272b06", func := "loop.example/g01233/laws.FnExactCountStanding", spec := "fnExactCountStanding", unfollowed := true, recurses := true, apart := false, narrowed := true }
def FnExactCountStandingUptoSaid : Prop := fnExactCountStandingUptoRow.holds Try.pinned (OpenSpec.upto fnExactCountStandingSpec)

/-- 'laws.FnExactCountTris', WHERE WHAT IT READS IS OF BULK AT MOST 1048576: true; the input reads as it did. -/
def fnExactCountTrisUptoRow : OpenClaim := { program := "ytghbmncjblfblaa", sum := "e1aa9bc1e3a29abfdeabbdf63b260c44d0b6d7fbf9f6d9ba6fe7339754272b06", func := "loop.example/g01233/laws.FnExactCountTris", spec := "fnExactCountTris", unfollowed := true, recurses := true, apart := false, narrowed := true }
def FnExactCountTrisUptoSaid : Prop := fnExactCountTrisUptoRow.holds Try.pinned (OpenSpec.upto fnExactCountTrisSpec)

/-- 'laws.FnExactTriText', WHERE WHAT IT READS IS OF BULK AT MOST 1048576: true; the input reads as it did. -/
def fnExactTriTextUptoRow : OpenClaim := { program := "ytghbmncjblfblaa", sum := "e1aa9bc1e3a29abfdeabbdf63b260c44d0b6d7fbf9f6d9ba6fe7339754272b06", func := "loop.example/g01233/laws.FnExactTriText", spec := "fnExactTriText", inPlace := ["internal/abi.NoEscape", "internal/bytealg.MakeNoZero"], unfollowed := true, recurses := true, apart := false, narrowed := true }
def FnExactTriTextUptoSaid : Prop := fnExactTriTextUptoRow.holds Try.pinned (OpenSpec.upto fnExactTriTextSpec)

/-- 'laws.FnExactHangingOf', WHERE WHAT IT READS IS OF BULK AT MOST 1048576: true; the input reads as it did. -/
def fnExactHangingOfUptoRow : OpenClaim := { program := "ytghbmncjblfblaa", sum := "e1aa9bc1e3a29abfdeabbdf63b260c44d0b6d7fbf9f6d9ba6fe7339754272b06", func := "loop.example/g01233/laws.FnExactHangingOf", spec := "fnExactHangingOf", unfollowed := true, recurses := true, apart := false, narrowed := true }
def FnExactHangingOfUptoSaid : Prop := fnExactHangingOfUptoRow.holds Try.pinned (OpenSpec.upto fnExactHangingOfSpec)

/-- 'laws.FnExactStandingOf', WHERE WHAT IT READS IS OF BULK AT MOST 1048576: true; the input reads as it did. -/
def fnExactStandingOfUptoRow : OpenClaim := { program := "ytghbmncjblfblaa", sum := "e1aa9bc1e3a29abfdeabbdf63b260c44d0b6d7fbf9f6d9ba6fe7339754272b06", func := "loop.example/g01233/laws.FnExactStandingOf", spec := "fnExactStandingOf", unfollowed := true, recurses := true, apart := false, narrowed := true }
def FnExactStandingOfUptoSaid : Prop := fnExactStandingOfUptoRow.holds Try.pinned (OpenSpec.upto fnExactStandingOfSpec)

end Rows
end Go.Proofs.Ytghbmncjblfblaa
