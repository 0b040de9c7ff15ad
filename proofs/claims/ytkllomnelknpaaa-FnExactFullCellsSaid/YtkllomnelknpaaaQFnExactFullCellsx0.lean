-- written by a program of this session, pm.py, for this claim
import Derived.Test.YtkllomnelknpaaaProg
import Derived.Below
import Derived.Deep.Draws
import Derived.Deep.AppendLies
import Derived.Maps.AppendAt
import Derived.OwnWalk
import Derived.Laws.BytesArg
import Derived.Laws.MakeOwn
import Derived.Laws.OwnMore
import Derived.Deep.OwnRows
import Derived.Tactics
import Derived.Lib.ConvBytes
import Derived.Laws.Slices
import Derived.WalkKit
import Derived.KernelRfl
import Derived.RowKit3
import Derived.Deep.LoopGhost
import Derived.Deep.QuietTactic
import Derived.BigQuiet
import Derived.WideLaws
import Derived.Deep.DeepCutAuto
import Derived.Deep.CutBlock
import Derived.Deep.RegionHeld3
import Derived.Laws.Rows
import Derived.Lib.AppendStr
import Derived.ArgAppend
import Derived.Laws.IdiomCopy
import Derived.OrdersHeld
import Derived.Laws.BitsLemmas
import Derived.RowKit
import Derived.Test.YtkllomnelknpaaaWWords
import Derived.Test.YtkllomnelknpaaaWLast
import Derived.Test.YtkllomnelknpaaaWTab
import Derived.Test.YtkllomnelknpaaaWFour
import Derived.Test.YtkllomnelknpaaaWQPut
import Derived.Test.YtkllomnelknpaaaWApart
import Derived.Test.YtkllomnelknpaaaWArr
import Derived.Test.YtkllomnelknpaaaWZeros
import Derived.Test.YtkllomnelknpaaaWFoot
import Derived.Test.YtkllomnelknpaaaWKept
import Derived.Test.YtkllomnelknpaaaWShare
import Derived.Test.YtkllomnelknpaaaWN
import Derived.Test.YtkllomnelknpaaaWFootNe
import Derived.Test.YtkllomnelknpaaaWAt
import Derived.Test.YtkllomnelknpaaaWEqStruct
import Derived.Test.YtkllomnelknpaaaWRepsOne
import Derived.Test.YtkllomnelknpaaaWInv
import Derived.Test.YtkllomnelknpaaaWInvWords
import Derived.Test.YtkllomnelknpaaaWGuard
import Derived.Test.YtkllomnelknpaaaWNEv
import Derived.Test.YtkllomnelknpaaaWMore
import Derived.Test.YtkllomnelknpaaaY
namespace Go.Proofs.Ytkllomnelknpaaa.Q
open Go.RowKit Go.Proofs.YtkllomnelknpaaaW.PrintWords Go.Proofs.YtkllomnelknpaaaW.PrintLast Go.Proofs.YtkllomnelknpaaaW.PrintMore
attribute [local go_sem] max2_int min2_int max_two min_two max_three min_three max_four min_four   -- for this text's walks alone
set_option linter.unusedVariables false
set_option linter.unusedSimpArgs false



def errW : Option Int → Value
  | none => .nilIface
  | some c => .iface 0 (.int .i64 c)
theorem errW_none : errW none = .nilIface := rfl
theorem errW_some (c : Int) : errW (some c) = .iface 0 (.int .i64 c) := rfl

theorem info3 : (Try.prog.info? 3).map (fun i => (i.zero, i.size, i.bytes)) = some (some (.int .i64 0), 1, 8) := by kernel_rfl
-- the values' own types

end Go.Proofs.Ytkllomnelknpaaa.Q
