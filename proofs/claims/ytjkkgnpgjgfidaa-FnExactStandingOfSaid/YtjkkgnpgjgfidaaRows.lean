/-
  No cell of these rows narrows 'for every input' (looked for: loops, veiled, ifaces, maps, wideKeys, modest, calm, conditions, laid).
  DERIVED. THE GIVEN ROWS OF THIS SEAT. 5 by the template 'for every input the law returns true; each argument reads behind the call as it read before'; 0 by the template 'total and deterministic' (their statements: YtjkkgnpgjgfidaaTotals.lean).
  GIVEN WITH THE SEED: the statements are not yours to turn. If you find one false, say at which input.
  Laid BY PROGRAM, IN A SANDBOX (cutbox-rows.mjs): the forced cells as the released guide's own fill.sh prints them over the translation 5b46ac8babe668b7… (all of the seat's roots in one cut). By AI agents, Wed Nov 11 2026. No macro, syntax, notation, axiom, sorry.
-/
import Derived.Test.YtjkkgnpgjgfidaaChecked
import GoSem.Claim
import GoSem.ClaimJoined
import GoSem.ClaimMapViews
import Derived.JoinedTies
import Derived.KernelRfl
namespace Go.Proofs.Ytjkkgnpgjgfidaa
/- THE CELL 'sum', in the pinned program and in every row, IS THE sha256 OF THE DUMP (.gsa) THAT YtjkkgnpgjgfidaaProg.lean LOADS. Nothing in Lean hashes anything: it is a label: what it is worth is what the hold of that sum in a sandbox is worth. -/
noncomputable def Try.pinned : Pinned := { name := "ytjkkgnpgjgfidaa", sum := "5b46ac8babe668b7c3793e2ac3dbb8fe5420383600c339e5c477960f1c506545", checked := Try.checked }
namespace Rows
def none {H : Type} : Left H := { results := [], args := [] }

/-- 'laws.FnExactTriText': WHATEVER THE INPUT: true; the input reads as it did. -/
def fnExactTriTextSpec : ChangeSpec := { name := "fnExactTriText", fn := fun _ => fun
  | [d] => { results := [.lit (.bool true)], args := [d] }
  | _ => none }
def fnExactTriTextRow : OpenClaim := { program := "ytjkkgnpgjgfidaa", sum := "5b46ac8babe668b7c3793e2ac3dbb8fe5420383600c339e5c477960f1c506545", func := "loop.example/g01233/laws.FnExactTriText", spec := "fnExactTriText", inPlace := ["internal/abi.NoEscape", "internal/bytealg.MakeNoZero"], unfollowed := true, recurses := true, apart := false }
def FnExactTriTextSaid : Prop := fnExactTriTextRow.holds Try.pinned (OpenSpec.ofChange fnExactTriTextSpec)

/-- ITS FALSE NEIGHBOUR: 'it returns false'. Refute it at one input. -/
def fnExactTriTextWrong : ChangeSpec := { name := "fnExactTriText", fn := fun _ => fun
  | [d] => { results := [.lit (.bool false)], args := [d] }
  | _ => none }
def FnExactTriTextWrongFalsely : Prop := fnExactTriTextRow.holds Try.pinned (OpenSpec.ofChange fnExactTriTextWrong)

/-- 'laws.FnExactHangingOf': WHATEVER THE INPUT: true; the input reads as it did. -/
def fnExactHangingOfSpec : ChangeSpec := { name := "fnExactHangingOf", fn := fun _ => fun
  | [d] => { results := [.lit (.bool true)], args := [d] }
  | _ => none }
def fnExactHangingOfRow : OpenClaim := { program := "ytjkkgnpgjgfidaa", sum := "5b46ac8babe668b7c3793e2ac3dbb8fe5420383600c339e5c477960f1c506545", func := "loop.example/g01233/laws.FnExactHangingOf", spec := "fnExactHangingOf", unfollowed := true, recurses := true, apart := false }
def FnExactHangingOfSaid : Prop := fnExactHangingOfRow.holds Try.pinned (OpenSpec.ofChange fnExactHangingOfSpec)

/-- ITS FALSE NEIGHBOUR: 'it returns false'. Refute it at one input. -/
def fnExactHangingOfWrong : ChangeSpec := { name := "fnExactHangingOf", fn := fun _ => fun
  | [d] => { results := [.lit (.bool false)], args := [d] }
  | _ => none }
def FnExactHangingOfWrongFalsely : Prop := fnExactHangingOfRow.holds Try.pinned (OpenSpec.ofChange fnExactHangingOfWrong)

/-- 'laws.FnExactStandingOf': WHATEVER THE INPUT: true; the input reads as it did. -/
def fnExactStandingOfSpec : ChangeSpec := { name := "fnExactStandingOf", fn := fun _ => fun
  | [d] => { results := [.lit (.bool true)], args := [d] }
  | _ => none }
def fnExactStandingOfRow : OpenClaim := { program := "ytjkkgnpgjgfidaa", sum := "5b46ac8babe668b7c3793e2ac3dbb8fe5420383600c339e5c477960f1c506545", func := "loop.example/g01233/laws.FnExactStandingOf", spec := "fnExactStandingOf", unfollowed := true, recurses := true, apart := false }
def FnExactStandingOfSaid : Prop := fnExactStandingOfRow.holds Try.pinned (OpenSpec.ofChange fnExactStandingOfSpec)

/-- ITS FALSE NEIGHBOUR: 'it returns false'. Refute it at one input. -/
def fnExactStandingOfWrong : ChangeSpec := { name := "fnExactStandingOf", fn := fun _ => fun
  | [d] => { results := [.lit (.bool false)], args := [d] }
  | _ => none }
def FnExactStandingOfWrongFalsely : Prop := fnExactStandingOfRow.holds Try.pinned (OpenSpec.ofChange fnExactStandingOfWrong)

/-- 'laws.FnExactIsSquareAt': WHATEVER THE INPUT: true; the input reads as it did. -/
def fnExactIsSquareAtSpec : ChangeSpec := { name := "fnExactIsSquareAt", fn := fun _ => fun
  | [d1, d2, d3, d4] => { results := [.lit (.bool true)], args := [d1, d2, d3, d4] }
  | _ => none }
def fnExactIsSquareAtRow : OpenClaim := { program := "ytjkkgnpgjgfidaa", sum := "5b46ac8babe668b7c3793e2ac3dbb8fe5420383600c339e5c477960f1c506545", func := "loop.example/g01233/laws.FnExactIsSquareAt", spec := "fnExactIsSquareAt", unfollowed := true, recurses := true, apart := false }
def FnExactIsSquareAtSaid : Prop := fnExactIsSquareAtRow.holds Try.pinned (OpenSpec.ofChange fnExactIsSquareAtSpec)

/-- ITS FALSE NEIGHBOUR: 'it returns false'. Refute it at one input. -/
def fnExactIsSquareAtWrong : ChangeSpec := { name := "fnExactIsSquareAt", fn := fun _ => fun
  | [d1, d2, d3, d4] => { results := [.lit (.bool false)], args := [d1, d2, d3, d4] }
  | _ => none }
def FnExactIsSquareAtWrongFalsely : Prop := fnExactIsSquareAtRow.holds Try.pinned (OpenSpec.ofChange fnExactIsSquareAtWrong)

/-- 'laws.FnExactMeetingAt': WHATEVER THE INPUT: true; the input reads as it did. -/
def fnExactMeetingAtSpec : ChangeSpec := { name := "fnExactMeetingAt", fn := fun _ => fun
  | [d1, d2] => { results := [.lit (.bool true)], args := [d1, d2] }
  | _ => none }
def fnExactMeetingAtRow : OpenClaim := { program := "ytjkkgnpgjgfidaa", sum := "5b46ac8babe668b7c3793e2ac3dbb8fe5420383600c339e5c477960f1c506545", func := "loop.example/g01233/laws.FnExactMeetingAt", spec := "fnExactMeetingAt", unfollowed := true, recurses := true, apart := false }
def FnExactMeetingAtSaid : Prop := fnExactMeetingAtRow.holds Try.pinned (OpenSpec.ofChange fnExactMeetingAtSpec)

/-- ITS FALSE NEIGHBOUR: 'it returns false'. Refute it at one input. -/
def fnExactMeetingAtWrong : ChangeSpec := { name := "fnExactMeetingAt", fn := fun _ => fun
  | [d1, d2] => { results := [.lit (.bool false)], args := [d1, d2] }
  | _ => none }
def FnExactMeetingAtWrongFalsely : Prop := fnExactMeetingAtRow.holds Try.pinned (OpenSpec.ofChange fnExactMeetingAtWrong)

/- THE SECOND FORM. 'bulk': how many values and letters a reading holds, each counted each time it is reached (what is shared counts as often as it is met; a slice's spare places count too). A statement '..UptoSaid' is the law's where the arguments, and the package variables that the reading takes, are together of bulk at most 1048576: NARROWER than '..Said'. Prove '..Said' where nothing that the law and all that it calls make is longer than what came in: it says more and counts as full. Else prove '..UptoSaid'. A law counts once. -/
mutual
def uptoBulk {H : Type} : DataW H → Nat
  | .lit (.string bytes) => bytes.length + 1
  | .lit _ => 1
  | .nil => 1
  | .ptr d => uptoBulk d + 1
  | .slice elems spare => uptoBulkAll elems + uptoBulkAll spare + 1
  | .agg parts => uptoBulkAll parts + 1
  | .iface _ d => uptoBulk d + 1
  | .map entries => uptoBulkEntries entries + 1
  | .held _ => 1
def uptoBulkAll {H : Type} : List (DataW H) → Nat
  | [] => 0
  | d :: r => uptoBulk d + uptoBulkAll r
def uptoBulkEntries {H : Type} : List (Lit × DataW H) → Nat
  | [] => 0
  | x :: r => uptoBulkEntry x + uptoBulkEntries r
def uptoBulkEntry {H : Type} : Lit × DataW H → Nat
  | (.string bytes, d) => bytes.length + uptoBulk d + 1
  | (_, d) => uptoBulk d + 1
 end
def uptoSmall : (H : Type) → List (DataW H) → Bool := fun _ ds => decide (uptoBulkAll ds ≤ 1048576)
def OpenSpec.upto (s : _root_.Go.ChangeSpec) : _root_.Go.OpenSpec := { _root_.Go.OpenSpec.ofChange s with cond := some uptoSmall }

/-- 'laws.FnExactTriText', WHERE WHAT IT READS IS OF BULK AT MOST 1048576: true; the input reads as it did. -/
def fnExactTriTextUptoRow : OpenClaim := { program := "ytjkkgnpgjgfidaa", sum := "5b46ac8babe668b7c3793e2ac3dbb8fe5420383600c339e5c477960f1c506545", func := "loop.example/g01233/laws.FnExactTriText", spec := "fnExactTriText", inPlace := ["internal/abi.NoEscape", "internal/bytealg.MakeNoZero"], unfollowed := true, recurses := true, apart := false, narrowed := true }
def FnExactTriTextUptoSaid : Prop := fnExactTriTextUptoRow.holds Try.pinned (OpenSpec.upto fnExactTriTextSpec)

/-- 'laws.FnExactHangingOf', WHERE WHAT IT READS IS OF BULK AT MOST 1048576: true; the input reads as it did. -/
def fnExactHangingOfUptoRow : OpenClaim := { program := "ytjkkgnpgjgfidaa", sum := "5b46ac8babe668b7c3793e2ac3dbb8fe5420383600c339e5c477960f1c506545", func := "loop.example/g01233/laws.FnExactHangingOf", spec := "fnExactHangingOf", unfollowed := true, recurses := true, apart := false, narrowed := true }
def FnExactHangingOfUptoSaid : Prop := fnExactHangingOfUptoRow.holds Try.pinned (OpenSpec.upto fnExactHangingOfSpec)

/-- 'laws.FnExactStandingOf', WHERE WHAT IT READS IS OF BULK AT MOST 1048576: true; the input reads as it did. -/
def fnExactStandingOfUptoRow : OpenClaim := { program := "ytjkkgnpgjgfidaa", sum := "5b46ac8babe668b7c3793e2ac3dbb8fe5420383600c339e5c477960f1c506545", func := "loop.example/g01233/laws.FnExactStandingOf", spec := "fnExactStandingOf", unfollowed := true, recurses := true, apart := false, narrowed := true }
def FnExactStandingOfUptoSaid : Prop := fnExactStandingOfUptoRow.holds Try.pinned (OpenSpec.upto fnExactStandingOfSpec)

/-- 'laws.FnExactIsSquareAt', WHERE WHAT IT READS IS OF BULK AT MOST 1048576: true; the input reads as it did. -/
def fnExactIsSquareAtUptoRow : OpenClaim := { program := "ytjkkgnpgjgfidaa", sum := "5b46ac8babe668b7c3793e2ac3dbb8fe5420383600c339e5c477960f1c506545", func := "loop.example/g01233/laws.FnExactIsSquareAt", spec := "fnExactIsSquareAt", unfollowed := true, recurses := true, apart := false, narrowed := true }
def FnExactIsSquareAtUptoSaid : Prop := fnExactIsSquareAtUptoRow.holds Try.pinned (OpenSpec.upto fnExactIsSquareAtSpec)

/-- 'laws.FnExactMeetingAt', WHERE WHAT IT READS IS OF BULK AT MOST 1048576: true; the input reads as it did. -/
def fnExactMeetingAtUptoRow : OpenClaim := { program := "ytjkkgnpgjgfidaa", sum := "5b46ac8babe668b7c3793e2ac3dbb8fe5420383600c339e5c477960f1c506545", func := "loop.example/g01233/laws.FnExactMeetingAt", spec := "fnExactMeetingAt", unfollowed := true, recurses := true, apart := false, narrowed := true }
def FnExactMeetingAtUptoSaid : Prop := fnExactMeetingAtUptoRow.holds Try.pinned (OpenSpec.upto fnExactMeetingAtSpec)

end Rows
end Go.Proofs.Ytjkkgnpgjgfidaa
