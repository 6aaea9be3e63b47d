-- written by this session's program myprint.py out of the translation; Lean checks it
import Derived.Test.YtlnkmbbmefbnpaaProg
import Derived.Below
import Derived.Deep.Draws
import Derived.Deep.AppendLies
import Derived.Maps.AppendAt
import Derived.OwnWalk
import Derived.Laws.BytesArg
import Derived.Laws.MakeOwn
import Derived.Laws.OwnMore
import Derived.Deep.OwnRows
import Derived.Tactics
import Derived.Lib.ConvBytes
import Derived.Laws.Slices
import Derived.WalkKit
import Derived.KernelRfl
import Derived.RowKit3
import Derived.Deep.LoopGhost
import Derived.Deep.QuietTactic
import Derived.BigQuiet
import Derived.WideLaws
import Derived.Deep.DeepCutAuto
import Derived.Deep.CutBlock
import Derived.Deep.RegionHeld3
import Derived.Laws.Rows
import Derived.Lib.AppendStr
import Derived.ArgAppend
import Derived.Laws.IdiomCopy
import Derived.OrdersHeld
import Derived.Laws.BitsLemmas
import Derived.RowKit
import Derived.Test.YtlnkmbbmefbnpaaWWords
import Derived.Test.YtlnkmbbmefbnpaaWLast
import Derived.Test.YtlnkmbbmefbnpaaWTab
import Derived.Test.YtlnkmbbmefbnpaaWFour
import Derived.Test.YtlnkmbbmefbnpaaWQPut
import Derived.Test.YtlnkmbbmefbnpaaWApart
import Derived.Test.YtlnkmbbmefbnpaaWArr
import Derived.Test.YtlnkmbbmefbnpaaWZeros
import Derived.Test.YtlnkmbbmefbnpaaWFoot
import Derived.Test.YtlnkmbbmefbnpaaWKept
import Derived.Test.YtlnkmbbmefbnpaaWShare
import Derived.Test.YtlnkmbbmefbnpaaWN
import Derived.Test.YtlnkmbbmefbnpaaWFootNe
import Derived.Test.YtlnkmbbmefbnpaaWAt
import Derived.Test.YtlnkmbbmefbnpaaWEqStruct
import Derived.Test.YtlnkmbbmefbnpaaWRepsOne
import Derived.Test.YtlnkmbbmefbnpaaWInv
import Derived.Test.YtlnkmbbmefbnpaaWInvWords
import Derived.Test.YtlnkmbbmefbnpaaWGuard
import Derived.Test.YtlnkmbbmefbnpaaWNEv
import Derived.Test.YtlnkmbbmefbnpaaWMore
namespace Go.Proofs.Ytlnkmbbmefbnpaa.Fn
open Go.RowKit Go.Proofs.YtlnkmbbmefbnpaaW.PrintWords Go.Proofs.YtlnkmbbmefbnpaaW.PrintLast Go.Proofs.YtlnkmbbmefbnpaaW.PrintMore
attribute [local go_sem] max2_int min2_int max_two min_two max_three min_three max_four min_four   -- for this text's walks alone
set_option linter.unusedVariables false
set_option linter.unusedSimpArgs false



def errW : Option Int → Value
  | none => .nilIface
  | some c => .iface 0 (.int .i64 c)
theorem errW_none : errW none = .nilIface := rfl
theorem errW_some (c : Int) : errW (some c) = .iface 0 (.int .i64 c) := rfl

-- the values' own types

end Go.Proofs.Ytlnkmbbmefbnpaa.Fn
