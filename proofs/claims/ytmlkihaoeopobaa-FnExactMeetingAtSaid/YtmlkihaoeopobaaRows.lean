/-
  No cell of these rows narrows 'for every input' (looked for: loops, veiled, ifaces, maps, wideKeys, modest, calm, conditions, laid).
  DERIVED. THE GIVEN ROWS OF THIS SEAT. 5 by the template 'for every input the law returns true; each argument reads behind the call as it read before'; 0 by the template 'total and deterministic' (their statements: YtmlkihaoeopobaaTotals.lean).
  GIVEN WITH THE SEED: the statements are not yours to turn. If you find one false, say at which input.
  Laid BY PROGRAM, IN A SANDBOX (cutbox-rows.mjs): the forced cells as the released guide's own fill.sh prints them over the translation 08237921018ef9e4… (all of the seat's roots in one cut). By AI agents, Wed Nov 11 2026. No macro, syntax, notation, axiom, sorry.
-/
import Derived.Test.YtmlkihaoeopobaaChecked
import GoSem.Claim
import GoSem.ClaimJoined
import GoSem.ClaimMapViews
import Derived.JoinedTies
import Derived.KernelRfl
namespace Go.Proofs.Ytmlkihaoeopobaa
/- THE CELL 'sum', in the pinned program and in every row, IS THE sha256 OF THE DUMP (.gsa) THAT YtmlkihaoeopobaaProg.lean LOADS. Nothing in Lean hashes anything: it is a label: what it is worth is what the hold of that sum in a sandbox is worth. -/
noncomputable def Try.pinned : Pinned := { name := "ytmlkihaoeopobaa", sum := "08237921018ef9e4bcf45d488dd5f23ba0f152ca4d1d978da347f792069badad", checked := Try.checked }
namespace Rows
def none {H : Type} : Left H := { results := [], args := [] }

/-- 'laws.FnExactMeetingAt': WHATEVER THE INPUT: true; the input reads as it did. -/
def fnExactMeetingAtSpec : ChangeSpec := { name := "fnExactMeetingAt", fn := fun _ => fun
  | [d1, d2] => { results := [.lit (.bool true)], args := [d1, d2] }
  | _ => none }
def fnExactMeetingAtRow : OpenClaim := { program := "ytmlkihaoeopobaa", sum := "08237921018ef9e4bcf45d488dd5f23ba0f152ca4d1d978da347f792069badad", func := "loop.example/g01233/laws.FnExactMeetingAt", spec := "fnExactMeetingAt", unfollowed := true, recurses := true, apart := false }
def FnExactMeetingAtSaid : Prop := fnExactMeetingAtRow.holds Try.pinned (OpenSpec.ofChange fnExactMeetingAtSpec)

/-- ITS FALSE NEIGHBOUR: 'it returns false'. Refute it at one input. -/
def fnExactMeetingAtWrong : ChangeSpec := { name := "fnExactMeetingAt", fn := fun _ => fun
  | [d1, d2] => { results := [.lit (.bool false)], args := [d1, d2] }
  | _ => none }
def FnExactMeetingAtWrongFalsely : Prop := fnExactMeetingAtRow.holds Try.pinned (OpenSpec.ofChange fnExactMeetingAtWrong)

/-- 'laws.FnExactKeptSquares': WHATEVER THE INPUT: true; the input reads as it did. -/
def fnExactKeptSquaresSpec : ChangeSpec := { name := "fnExactKeptSquares", fn := fun _ => fun
  | [d1, d2] => { results := [.lit (.bool true)], args := [d1, d2] }
  | _ => none }
def fnExactKeptSquaresRow : OpenClaim := { program := "ytmlkihaoeopobaa", sum := "08237921018ef9e4bcf45d488dd5f23ba0f152ca4d1d978da347f792069badad", func := "loop.example/g01233/laws.FnExactKeptSquares", spec := "fnExactKeptSquares", unfollowed := true, recurses := true, apart := false }
def FnExactKeptSquaresSaid : Prop := fnExactKeptSquaresRow.holds Try.pinned (OpenSpec.ofChange fnExactKeptSquaresSpec)

/-- ITS FALSE NEIGHBOUR: 'it returns false'. Refute it at one input. -/
def fnExactKeptSquaresWrong : ChangeSpec := { name := "fnExactKeptSquares", fn := fun _ => fun
  | [d1, d2] => { results := [.lit (.bool false)], args := [d1, d2] }
  | _ => none }
def FnExactKeptSquaresWrongFalsely : Prop := fnExactKeptSquaresRow.holds Try.pinned (OpenSpec.ofChange fnExactKeptSquaresWrong)

/-- 'laws.FnExactIsTidy': WHATEVER THE INPUT: true; the input reads as it did. -/
def fnExactIsTidySpec : ChangeSpec := { name := "fnExactIsTidy", fn := fun _ => fun
  | [d] => { results := [.lit (.bool true)], args := [d] }
  | _ => none }
def fnExactIsTidyRow : OpenClaim := { program := "ytmlkihaoeopobaa", sum := "08237921018ef9e4bcf45d488dd5f23ba0f152ca4d1d978da347f792069badad", func := "loop.example/g01233/laws.FnExactIsTidy", spec := "fnExactIsTidy", unfollowed := true, recurses := true, apart := false }
def FnExactIsTidySaid : Prop := fnExactIsTidyRow.holds Try.pinned (OpenSpec.ofChange fnExactIsTidySpec)

/-- ITS FALSE NEIGHBOUR: 'it returns false'. Refute it at one input. -/
def fnExactIsTidyWrong : ChangeSpec := { name := "fnExactIsTidy", fn := fun _ => fun
  | [d] => { results := [.lit (.bool false)], args := [d] }
  | _ => none }
def FnExactIsTidyWrongFalsely : Prop := fnExactIsTidyRow.holds Try.pinned (OpenSpec.ofChange fnExactIsTidyWrong)

/-- 'laws.FnExactCountOfSize': WHATEVER THE INPUT: true; the input reads as it did. -/
def fnExactCountOfSizeSpec : ChangeSpec := { name := "fnExactCountOfSize", fn := fun _ => fun
  | [d1, d2] => { results := [.lit (.bool true)], args := [d1, d2] }
  | _ => none }
def fnExactCountOfSizeRow : OpenClaim := { program := "ytmlkihaoeopobaa", sum := "08237921018ef9e4bcf45d488dd5f23ba0f152ca4d1d978da347f792069badad", func := "loop.example/g01233/laws.FnExactCountOfSize", spec := "fnExactCountOfSize", unfollowed := true, recurses := true, apart := false }
def FnExactCountOfSizeSaid : Prop := fnExactCountOfSizeRow.holds Try.pinned (OpenSpec.ofChange fnExactCountOfSizeSpec)

/-- ITS FALSE NEIGHBOUR: 'it returns false'. Refute it at one input. -/
def fnExactCountOfSizeWrong : ChangeSpec := { name := "fnExactCountOfSize", fn := fun _ => fun
  | [d1, d2] => { results := [.lit (.bool false)], args := [d1, d2] }
  | _ => none }
def FnExactCountOfSizeWrongFalsely : Prop := fnExactCountOfSizeRow.holds Try.pinned (OpenSpec.ofChange fnExactCountOfSizeWrong)

/-- 'laws.FnExactCountSquares': WHATEVER THE INPUT: true; the input reads as it did. -/
def fnExactCountSquaresSpec : ChangeSpec := { name := "fnExactCountSquares", fn := fun _ => fun
  | [d] => { results := [.lit (.bool true)], args := [d] }
  | _ => none }
def fnExactCountSquaresRow : OpenClaim := { program := "ytmlkihaoeopobaa", sum := "08237921018ef9e4bcf45d488dd5f23ba0f152ca4d1d978da347f792069badad", func := "loop.example/g01233/laws.FnExactCountSquares", spec := "fnExactCountSquares", unfollowed := true, recurses := true, apart := false }
def FnExactCountSquaresSaid : Prop := fnExactCountSquaresRow.holds Try.pinned (OpenSpec.ofChange fnExactCountSquaresSpec)

/-- ITS FALSE NEIGHBOUR: 'it returns false'. Refute it at one input. -/
def fnExactCountSquaresWrong : ChangeSpec := { name := "fnExactCountSquares", fn := fun _ => fun
  | [d] => { results := [.lit (.bool false)], args := [d] }
  | _ => none }
def FnExactCountSquaresWrongFalsely : Prop := fnExactCountSquaresRow.holds Try.pinned (OpenSpec.ofChange fnExactCountSquaresWrong)

/- THE SECOND FORM. 'bulk': how many values and letters a reading holds, each counted each time it is reached (what is shared counts as often as it is met; a slice's spare places count too). A statement '..UptoSaid' is the law's where the arguments, and the package variables that the reading takes, are together of bulk at most 1048576: NARROWER than '..Said'. Prove '..Said' where nothing that the law and all that it calls make is longer than what came in: it says more and counts as full. Else prove '..UptoSaid'. A law counts once. -/
mutual
def uptoBulk {H : Type} : DataW H → Nat
  | .lit (.string bytes) => bytes.length + 1
  | .lit _ => 1
  | .nil => 1
  | .ptr d => uptoBulk d + 1
  | .slice elems spare => uptoBulkAll elems + uptoBulkAll spare + 1
  | .agg parts => uptoBulkAll parts + 1
  | .iface _ d => uptoBulk d + 1
  | .map entries => uptoBulkEntries entries + 1
  | .held _ => 1
def uptoBulkAll {H : Type} : List (DataW H) → Nat
  | [] => 0
  | d :: r => uptoBulk d + uptoBulkAll r
def uptoBulkEntries {H : Type} : List (Lit × DataW H) → Nat
  | [] => 0
  | x :: r => uptoBulkEntry x + uptoBulkEntries r
def uptoBulkEntry {H : Type} : Lit × DataW H → Nat
  | (.string bytes, d) => bytes.length + uptoBulk d + 1
  | (_, d) => uptoBulk d + 1
 end
def uptoSmall : (H : Type) → List (DataW H) → Bool := fun _ ds => decide (uptoBulkAll ds ≤ 1048576)
def OpenSpec.upto (s : _root_.Go.ChangeSpec) : _root_.Go.OpenSpec := { _root_.Go.OpenSpec.ofChange s with cond := some uptoSmall }

/-- 'laws.FnExactMeetingAt', WHERE WHAT IT READS IS OF BULK AT MOST 1048576: true; the input reads as it did. -/
def fnExactMeetingAtUptoRow : OpenClaim := { program := "ytmlkihaoeopobaa", sum := "08237921018ef9e4bcf45d488dd5f23ba0f152ca4d1d978da347f792069badad", func := "loop.example/g01233/laws.FnExactMeetingAt", spec := "fnExactMeetingAt", unfollowed := true, recurses := true, apart := false, narrowed := true }
def FnExactMeetingAtUptoSaid : Prop := fnExactMeetingAtUptoRow.holds Try.pinned (OpenSpec.upto fnExactMeetingAtSpec)

/-- 'laws.FnExactKeptSquares', WHERE WHAT IT READS IS OF BULK AT MOST 1048576: true; the input reads as it did. -/
def fnExactKeptSquaresUptoRow : OpenClaim := { program := "ytmlkihaoeopobaa", sum := "08237921018ef9e4bcf45d488dd5f23ba0f152ca4d1d978da347f792069badad", func := "loop.example/g01233/laws.FnExactKeptSquares", spec := "fnExactKeptSquares", unfollowed := true, recurses := true, apart := false, narrowed := true }
def FnExactKeptSquaresUptoSaid : Prop := fnExactKeptSquaresUptoRow.holds Try.pinned (OpenSpec.upto fnExactKeptSquaresSpec)

/-- 'laws.FnExactIsTidy', WHERE WHAT IT READS IS OF BULK AT MOST 1048576: true; the input reads as it did. -/
def fnExactIsTidyUptoRow : OpenClaim := { program := "ytmlkihaoeopobaa", sum := "08237921018ef9e4bcf45d488dd5f23ba0f152ca4d1d978da347f792069badad", func := "loop.example/g01233/laws.FnExactIsTidy", spec := "fnExactIsTidy", unfollowed := true, recurses := true, apart := false, narrowed := true }
def FnExactIsTidyUptoSaid : Prop := fnExactIsTidyUptoRow.holds Try.pinned (OpenSpec.upto fnExactIsTidySpec)

/-- 'laws.FnExactCountOfSize', WHERE WHAT IT READS IS OF BULK AT MOST 1048576: true; the input reads as it did. -/
def fnExactCountOfSizeUptoRow : OpenClaim := { program := "ytmlkihaoeopobaa", sum := "08237921018ef9e4bcf45d488dd5f23ba0f152ca4d1d978da347f792069badad", func := "loop.example/g01233/laws.FnExactCountOfSize", spec := "fnExactCountOfSize", unfollowed := true, recurses := true, apart := false, narrowed := true }
def FnExactCountOfSizeUptoSaid : Prop := fnExactCountOfSizeUptoRow.holds Try.pinned (OpenSpec.upto fnExactCountOfSizeSpec)

/-- 'laws.FnExactCountSquares', WHERE WHAT IT READS IS OF BULK AT MOST 1048576: true; the input reads as it did. -/
def fnExactCountSquaresUptoRow : OpenClaim := { program := "ytmlkihaoeopobaa", sum := "08237921018ef9e4bcf45d488dd5f23ba0f152ca4d1d978da347f792069badad", func := "loop.example/g01233/laws.FnExactCountSquares", spec := "fnExactCountSquares", unfollowed := true, recurses := true, apart := false, narrowed := true }
def FnExactCountSquaresUptoSaid : Prop := fnExactCountSquaresUptoRow.holds Try.pinned (OpenSpec.upto fnExactCountSquaresSpec)

end Rows
end Go.Proofs.Ytmlkihaoeopobaa
