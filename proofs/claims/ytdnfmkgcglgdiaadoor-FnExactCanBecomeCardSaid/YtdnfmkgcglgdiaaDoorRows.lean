/-
  NARROWER THAN 'FOR EVERY INPUT', by the rows' own cells (each row's printed sentence says how): FnExactGreatestNumeral: laid · FnExactCanBecome: laid · FnExactCountNumerals: laid · FnExactLeastNumeral: laid · FnExactMatchesOfDigit: laid · FnExactDigitOfMatches: laid.
  DERIVED. THE GIVEN ROWS OF THIS SEAT. 6 by the template 'for every input the law returns true; each argument reads behind the call as it read before'; 0 by the template 'total and deterministic' (their statements: YtdnfmkgcglgdiaaDoorTotals.lean).
  GIVEN WITH THE SEED: the statements are not yours to turn. If you find one false, say at which input.
  Laid BY PROGRAM, IN A SANDBOX (cutbox-rows.mjs): the forced cells as the released guide's own fill.sh prints them over the translation 9c5851aa5e1a760d… (all of the seat's roots in one cut). By AI agents, Wed Nov 11 2026. No macro, syntax, notation, axiom, sorry.
-/
import Derived.Test.YtdnfmkgcglgdiaaDoorChecked
import GoSem.Claim
import GoSem.ClaimJoined
import GoSem.ClaimMapViews
import Derived.JoinedTies
import Derived.KernelRfl
namespace Go.Proofs.YtdnfmkgcglgdiaaDoor
/- THE CELL 'sum', in the pinned program and in every row, IS THE sha256 OF THE DUMP (.gsa) THAT YtdnfmkgcglgdiaaDoorProg.lean LOADS. Nothing in Lean hashes anything: it is a label: what it is worth is what the hold of that sum in a sandbox is worth. -/
noncomputable def Tryd.pinned : Pinned := { name := "ytdnfmkgcglgdiaadoor", sum := "9c5851aa5e1a760d1163ed477691139fe19de15541c05f252ca729ab7d2dc7ba", checked := Tryd.checked }
namespace Rows
def none {H : Type} : Left H := { results := [], args := [] }

/- WHAT THE LISTED PACKAGE-LEVEL VARIABLES READ AS WHEN THE CALL BEGINS. Each datum BY PROGRAM (the guide's laid-datum.mjs) off the statement by which the dump's own 'gosem.cut.vars' lays the variable. In a bare row this is a premise. The card (YtdnfmkgcglgdiaaDoorCards.lean) ties it to the program's text. -/
def laid_loop_example_g01233_impl_laid {H : Type} : DataW H := .agg [.lit (.int .u8 63), .lit (.int .u8 6), .lit (.int .u8 91), .lit (.int .u8 79), .lit (.int .u8 102), .lit (.int .u8 109), .lit (.int .u8 125), .lit (.int .u8 7), .lit (.int .u8 127), .lit (.int .u8 111)]
def laid_math_bits_deBruijn64tab {H : Type} : DataW H := .agg [.lit (.int .u8 0), .lit (.int .u8 1), .lit (.int .u8 56), .lit (.int .u8 2), .lit (.int .u8 57), .lit (.int .u8 49), .lit (.int .u8 28), .lit (.int .u8 3), .lit (.int .u8 61), .lit (.int .u8 58), .lit (.int .u8 42), .lit (.int .u8 50), .lit (.int .u8 38), .lit (.int .u8 29), .lit (.int .u8 17), .lit (.int .u8 4), .lit (.int .u8 62), .lit (.int .u8 47), .lit (.int .u8 59), .lit (.int .u8 36), .lit (.int .u8 45), .lit (.int .u8 43), .lit (.int .u8 51), .lit (.int .u8 22), .lit (.int .u8 53), .lit (.int .u8 39), .lit (.int .u8 33), .lit (.int .u8 30), .lit (.int .u8 24), .lit (.int .u8 18), .lit (.int .u8 12), .lit (.int .u8 5), .lit (.int .u8 63), .lit (.int .u8 55), .lit (.int .u8 48), .lit (.int .u8 27), .lit (.int .u8 60), .lit (.int .u8 41), .lit (.int .u8 37), .lit (.int .u8 16), .lit (.int .u8 46), .lit (.int .u8 35), .lit (.int .u8 44), .lit (.int .u8 21), .lit (.int .u8 52), .lit (.int .u8 32), .lit (.int .u8 23), .lit (.int .u8 11), .lit (.int .u8 54), .lit (.int .u8 26), .lit (.int .u8 40), .lit (.int .u8 15), .lit (.int .u8 34), .lit (.int .u8 20), .lit (.int .u8 31), .lit (.int .u8 10), .lit (.int .u8 25), .lit (.int .u8 14), .lit (.int .u8 19), .lit (.int .u8 9), .lit (.int .u8 13), .lit (.int .u8 8), .lit (.int .u8 7), .lit (.int .u8 6)]

/-- 'laws.FnExactGreatestNumeral': WHATEVER THE INPUT: true; the input reads as it did. -/
def fnExactGreatestNumeralSpec : ChangeSpec := { name := "fnExactGreatestNumeral", vars := ["loop.example/g01233/impl.laid"], fn := fun _ => fun
  | [d, g1] => { results := [.lit (.bool true)], args := [d], vars := [g1] }
  | _ => none }
def fnExactGreatestNumeralRow : OpenClaim := { program := "ytdnfmkgcglgdiaadoor", sum := "9c5851aa5e1a760d1163ed477691139fe19de15541c05f252ca729ab7d2dc7ba", func := "loop.example/g01233/laws.FnExactGreatestNumeral", spec := "fnExactGreatestNumeral", named := ["loop.example/g01233/impl.laid"], apart := false, laid := [("loop.example/g01233/impl.laid", laid_loop_example_g01233_impl_laid)] }
def FnExactGreatestNumeralSaid : Prop := fnExactGreatestNumeralRow.holds Tryd.pinned (OpenSpec.ofChange fnExactGreatestNumeralSpec)

/-- ITS FALSE NEIGHBOUR: 'it returns false'. Refute it at one input. -/
def fnExactGreatestNumeralWrong : ChangeSpec := { name := "fnExactGreatestNumeral", vars := ["loop.example/g01233/impl.laid"], fn := fun _ => fun
  | [d, g1] => { results := [.lit (.bool false)], args := [d], vars := [g1] }
  | _ => none }
def FnExactGreatestNumeralWrongFalsely : Prop := fnExactGreatestNumeralRow.holds Tryd.pinned (OpenSpec.ofChange fnExactGreatestNumeralWrong)

/-- 'laws.FnExactCanBecome': WHATEVER THE INPUT: true; the input reads as it did. -/
def fnExactCanBecomeSpec : ChangeSpec := { name := "fnExactCanBecome", vars := ["loop.example/g01233/impl.laid"], fn := fun _ => fun
  | [d1, d2, d3, d4, g1] => { results := [.lit (.bool true)], args := [d1, d2, d3, d4], vars := [g1] }
  | _ => none }
def fnExactCanBecomeRow : OpenClaim := { program := "ytdnfmkgcglgdiaadoor", sum := "9c5851aa5e1a760d1163ed477691139fe19de15541c05f252ca729ab7d2dc7ba", func := "loop.example/g01233/laws.FnExactCanBecome", spec := "fnExactCanBecome", named := ["loop.example/g01233/impl.laid"], apart := false, laid := [("loop.example/g01233/impl.laid", laid_loop_example_g01233_impl_laid)] }
def FnExactCanBecomeSaid : Prop := fnExactCanBecomeRow.holds Tryd.pinned (OpenSpec.ofChange fnExactCanBecomeSpec)

/-- ITS FALSE NEIGHBOUR: 'it returns false'. Refute it at one input. -/
def fnExactCanBecomeWrong : ChangeSpec := { name := "fnExactCanBecome", vars := ["loop.example/g01233/impl.laid"], fn := fun _ => fun
  | [d1, d2, d3, d4, g1] => { results := [.lit (.bool false)], args := [d1, d2, d3, d4], vars := [g1] }
  | _ => none }
def FnExactCanBecomeWrongFalsely : Prop := fnExactCanBecomeRow.holds Tryd.pinned (OpenSpec.ofChange fnExactCanBecomeWrong)

/-- 'laws.FnExactCountNumerals': WHATEVER THE INPUT: true; the input reads as it did. -/
def fnExactCountNumeralsSpec : ChangeSpec := { name := "fnExactCountNumerals", vars := ["loop.example/g01233/impl.laid"], fn := fun _ => fun
  | [d1, d2, g1] => { results := [.lit (.bool true)], args := [d1, d2], vars := [g1] }
  | _ => none }
def fnExactCountNumeralsRow : OpenClaim := { program := "ytdnfmkgcglgdiaadoor", sum := "9c5851aa5e1a760d1163ed477691139fe19de15541c05f252ca729ab7d2dc7ba", func := "loop.example/g01233/laws.FnExactCountNumerals", spec := "fnExactCountNumerals", named := ["loop.example/g01233/impl.laid"], apart := false, laid := [("loop.example/g01233/impl.laid", laid_loop_example_g01233_impl_laid)] }
def FnExactCountNumeralsSaid : Prop := fnExactCountNumeralsRow.holds Tryd.pinned (OpenSpec.ofChange fnExactCountNumeralsSpec)

/-- ITS FALSE NEIGHBOUR: 'it returns false'. Refute it at one input. -/
def fnExactCountNumeralsWrong : ChangeSpec := { name := "fnExactCountNumerals", vars := ["loop.example/g01233/impl.laid"], fn := fun _ => fun
  | [d1, d2, g1] => { results := [.lit (.bool false)], args := [d1, d2], vars := [g1] }
  | _ => none }
def FnExactCountNumeralsWrongFalsely : Prop := fnExactCountNumeralsRow.holds Tryd.pinned (OpenSpec.ofChange fnExactCountNumeralsWrong)

/-- 'laws.FnExactLeastNumeral': WHATEVER THE INPUT: true; the input reads as it did. -/
def fnExactLeastNumeralSpec : ChangeSpec := { name := "fnExactLeastNumeral", vars := ["loop.example/g01233/impl.laid"], fn := fun _ => fun
  | [d, g1] => { results := [.lit (.bool true)], args := [d], vars := [g1] }
  | _ => none }
def fnExactLeastNumeralRow : OpenClaim := { program := "ytdnfmkgcglgdiaadoor", sum := "9c5851aa5e1a760d1163ed477691139fe19de15541c05f252ca729ab7d2dc7ba", func := "loop.example/g01233/laws.FnExactLeastNumeral", spec := "fnExactLeastNumeral", recurses := true, named := ["loop.example/g01233/impl.laid"], apart := false, laid := [("loop.example/g01233/impl.laid", laid_loop_example_g01233_impl_laid)] }
def FnExactLeastNumeralSaid : Prop := fnExactLeastNumeralRow.holds Tryd.pinned (OpenSpec.ofChange fnExactLeastNumeralSpec)

/-- ITS FALSE NEIGHBOUR: 'it returns false'. Refute it at one input. -/
def fnExactLeastNumeralWrong : ChangeSpec := { name := "fnExactLeastNumeral", vars := ["loop.example/g01233/impl.laid"], fn := fun _ => fun
  | [d, g1] => { results := [.lit (.bool false)], args := [d], vars := [g1] }
  | _ => none }
def FnExactLeastNumeralWrongFalsely : Prop := fnExactLeastNumeralRow.holds Tryd.pinned (OpenSpec.ofChange fnExactLeastNumeralWrong)

/-- 'laws.FnExactMatchesOfDigit': WHATEVER THE INPUT: true; the input reads as it did. -/
def fnExactMatchesOfDigitSpec : ChangeSpec := { name := "fnExactMatchesOfDigit", vars := ["loop.example/g01233/impl.laid"], fn := fun _ => fun
  | [d, g1] => { results := [.lit (.bool true)], args := [d], vars := [g1] }
  | _ => none }
def fnExactMatchesOfDigitRow : OpenClaim := { program := "ytdnfmkgcglgdiaadoor", sum := "9c5851aa5e1a760d1163ed477691139fe19de15541c05f252ca729ab7d2dc7ba", func := "loop.example/g01233/laws.FnExactMatchesOfDigit", spec := "fnExactMatchesOfDigit", named := ["loop.example/g01233/impl.laid", "math/bits.deBruijn64tab"], apart := false, laid := [("math/bits.deBruijn64tab", laid_math_bits_deBruijn64tab), ("loop.example/g01233/impl.laid", laid_loop_example_g01233_impl_laid)] }
def FnExactMatchesOfDigitSaid : Prop := fnExactMatchesOfDigitRow.holds Tryd.pinned (OpenSpec.ofChange fnExactMatchesOfDigitSpec)

/-- ITS FALSE NEIGHBOUR: 'it returns false'. Refute it at one input. -/
def fnExactMatchesOfDigitWrong : ChangeSpec := { name := "fnExactMatchesOfDigit", vars := ["loop.example/g01233/impl.laid"], fn := fun _ => fun
  | [d, g1] => { results := [.lit (.bool false)], args := [d], vars := [g1] }
  | _ => none }
def FnExactMatchesOfDigitWrongFalsely : Prop := fnExactMatchesOfDigitRow.holds Tryd.pinned (OpenSpec.ofChange fnExactMatchesOfDigitWrong)

/-- 'laws.FnExactDigitOfMatches': WHATEVER THE INPUT: true; the input reads as it did. -/
def fnExactDigitOfMatchesSpec : ChangeSpec := { name := "fnExactDigitOfMatches", vars := ["loop.example/g01233/impl.laid"], fn := fun _ => fun
  | [d, g1] => { results := [.lit (.bool true)], args := [d], vars := [g1] }
  | _ => none }
def fnExactDigitOfMatchesRow : OpenClaim := { program := "ytdnfmkgcglgdiaadoor", sum := "9c5851aa5e1a760d1163ed477691139fe19de15541c05f252ca729ab7d2dc7ba", func := "loop.example/g01233/laws.FnExactDigitOfMatches", spec := "fnExactDigitOfMatches", unfollowed := true, recurses := true, named := ["loop.example/g01233/impl.laid"], apart := false, laid := [("loop.example/g01233/impl.laid", laid_loop_example_g01233_impl_laid)] }
def FnExactDigitOfMatchesSaid : Prop := fnExactDigitOfMatchesRow.holds Tryd.pinned (OpenSpec.ofChange fnExactDigitOfMatchesSpec)

/-- ITS FALSE NEIGHBOUR: 'it returns false'. Refute it at one input. -/
def fnExactDigitOfMatchesWrong : ChangeSpec := { name := "fnExactDigitOfMatches", vars := ["loop.example/g01233/impl.laid"], fn := fun _ => fun
  | [d, g1] => { results := [.lit (.bool false)], args := [d], vars := [g1] }
  | _ => none }
def FnExactDigitOfMatchesWrongFalsely : Prop := fnExactDigitOfMatchesRow.holds Tryd.pinned (OpenSpec.ofChange fnExactDigitOfMatchesWrong)

/- THE SECOND FORM. 'bulk': how many values and letters a reading holds, each counted each time it is reached (what is shared counts as often as it is met; a slice's spare places count too). A statement '..UptoSaid' is the law's where the arguments, and the package variables that the reading takes, are together of bulk at most 1048576: NARROWER than '..Said'. Prove '..Said' where nothing that the law and all that it calls make is longer than what came in: it says more and counts as full. Else prove '..UptoSaid'. A law counts once. -/
mutual
def uptoBulk {H : Type} : DataW H → Nat
  | .lit (.string bytes) => bytes.length + 1
  | .lit _ => 1
  | .nil => 1
  | .ptr d => uptoBulk d + 1
  | .slice elems spare => uptoBulkAll elems + uptoBulkAll spare + 1
  | .agg parts => uptoBulkAll parts + 1
  | .iface _ d => uptoBulk d + 1
  | .map entries => uptoBulkEntries entries + 1
  | .held _ => 1
def uptoBulkAll {H : Type} : List (DataW H) → Nat
  | [] => 0
  | d :: r => uptoBulk d + uptoBulkAll r
def uptoBulkEntries {H : Type} : List (Lit × DataW H) → Nat
  | [] => 0
  | x :: r => uptoBulkEntry x + uptoBulkEntries r
def uptoBulkEntry {H : Type} : Lit × DataW H → Nat
  | (.string bytes, d) => bytes.length + uptoBulk d + 1
  | (_, d) => uptoBulk d + 1
 end
def uptoSmall : (H : Type) → List (DataW H) → Bool := fun _ ds => decide (uptoBulkAll ds ≤ 1048576)
def OpenSpec.upto (s : _root_.Go.ChangeSpec) : _root_.Go.OpenSpec := { _root_.Go.OpenSpec.ofChange s with cond := some uptoSmall }

/-- 'laws.FnExactGreatestNumeral', WHERE WHAT IT READS IS OF BULK AT MOST 1048576: true; the input reads as it did. -/
def fnExactGreatestNumeralUptoRow : OpenClaim := { program := "ytdnfmkgcglgdiaadoor", sum := "9c5851aa5e1a760d1163ed477691139fe19de15541c05f252ca729ab7d2dc7ba", func := "loop.example/g01233/laws.FnExactGreatestNumeral", spec := "fnExactGreatestNumeral", named := ["loop.example/g01233/impl.laid"], apart := false, laid := [("loop.example/g01233/impl.laid", laid_loop_example_g01233_impl_laid)], narrowed := true }
def FnExactGreatestNumeralUptoSaid : Prop := fnExactGreatestNumeralUptoRow.holds Tryd.pinned (OpenSpec.upto fnExactGreatestNumeralSpec)

/-- 'laws.FnExactCanBecome', WHERE WHAT IT READS IS OF BULK AT MOST 1048576: true; the input reads as it did. -/
def fnExactCanBecomeUptoRow : OpenClaim := { program := "ytdnfmkgcglgdiaadoor", sum := "9c5851aa5e1a760d1163ed477691139fe19de15541c05f252ca729ab7d2dc7ba", func := "loop.example/g01233/laws.FnExactCanBecome", spec := "fnExactCanBecome", named := ["loop.example/g01233/impl.laid"], apart := false, laid := [("loop.example/g01233/impl.laid", laid_loop_example_g01233_impl_laid)], narrowed := true }
def FnExactCanBecomeUptoSaid : Prop := fnExactCanBecomeUptoRow.holds Tryd.pinned (OpenSpec.upto fnExactCanBecomeSpec)

/-- 'laws.FnExactCountNumerals', WHERE WHAT IT READS IS OF BULK AT MOST 1048576: true; the input reads as it did. -/
def fnExactCountNumeralsUptoRow : OpenClaim := { program := "ytdnfmkgcglgdiaadoor", sum := "9c5851aa5e1a760d1163ed477691139fe19de15541c05f252ca729ab7d2dc7ba", func := "loop.example/g01233/laws.FnExactCountNumerals", spec := "fnExactCountNumerals", named := ["loop.example/g01233/impl.laid"], apart := false, laid := [("loop.example/g01233/impl.laid", laid_loop_example_g01233_impl_laid)], narrowed := true }
def FnExactCountNumeralsUptoSaid : Prop := fnExactCountNumeralsUptoRow.holds Tryd.pinned (OpenSpec.upto fnExactCountNumeralsSpec)

/-- 'laws.FnExactLeastNumeral', WHERE WHAT IT READS IS OF BULK AT MOST 1048576: true; the input reads as it did. -/
def fnExactLeastNumeralUptoRow : OpenClaim := { program := "ytdnfmkgcglgdiaadoor", sum := "9c5851aa5e1a760d1163ed477691139fe19de15541c05f252ca729ab7d2dc7ba", func := "loop.example/g01233/laws.FnExactLeastNumeral", spec := "fnExactLeastNumeral", recurses := true, named := ["loop.example/g01233/impl.laid"], apart := false, laid := [("loop.example/g01233/impl.laid", laid_loop_example_g01233_impl_laid)], narrowed := true }
def FnExactLeastNumeralUptoSaid : Prop := fnExactLeastNumeralUptoRow.holds Tryd.pinned (OpenSpec.upto fnExactLeastNumeralSpec)

/-- 'laws.FnExactMatchesOfDigit', WHERE WHAT IT READS IS OF BULK AT MOST 1048576: true; the input reads as it did. -/
def fnExactMatchesOfDigitUptoRow : OpenClaim := { program := "ytdnfmkgcglgdiaadoor", sum := "9c5851aa5e1a760d1163ed477691139fe19de15541c05f252ca729ab7d2dc7ba", func := "loop.example/g01233/laws.FnExactMatchesOfDigit", spec := "fnExactMatchesOfDigit", named := ["loop.example/g01233/impl.laid", "math/bits.deBruijn64tab"], apart := false, laid := [("math/bits.deBruijn64tab", laid_math_bits_deBruijn64tab), ("loop.example/g01233/impl.laid", laid_loop_example_g01233_impl_laid)], narrowed := true }
def FnExactMatchesOfDigitUptoSaid : Prop := fnExactMatchesOfDigitUptoRow.holds Tryd.pinned (OpenSpec.upto fnExactMatchesOfDigitSpec)

/-- 'laws.FnExactDigitOfMatches', WHERE WHAT IT READS IS OF BULK AT MOST 1048576: true; the input reads as it did. -/
def fnExactDigitOfMatchesUptoRow : OpenClaim := { program := "ytdnfmkgcglgdiaadoor", sum := "9c5851aa5e1a760d1163ed477691139fe19de15541c05f252ca729ab7d2dc7ba", func := "loop.example/g01233/laws.FnExactDigitOfMatches", spec := "fnExactDigitOfMatches", unfollowed := true, recurses := true, named := ["loop.example/g01233/impl.laid"], apart := false, laid := [("loop.example/g01233/impl.laid", laid_loop_example_g01233_impl_laid)], narrowed := true }
def FnExactDigitOfMatchesUptoSaid : Prop := fnExactDigitOfMatchesUptoRow.holds Tryd.pinned (OpenSpec.upto fnExactDigitOfMatchesSpec)

end Rows
end Go.Proofs.YtdnfmkgcglgdiaaDoor
