-- WRITTEN BY wip/tools/xprint.py out of the translation: the kit's print with this work's hooks.
import Derived.Test.YtmdkbhbconnmmaaDoorProg
import Derived.Below
import Derived.Deep.Draws
import Derived.Deep.AppendLies
import Derived.Maps.AppendAt
import Derived.OwnWalk
import Derived.Laws.BytesArg
import Derived.Laws.MakeOwn
import Derived.Laws.OwnMore
import Derived.Deep.OwnRows
import Derived.Tactics
import Derived.Lib.ConvBytes
import Derived.Laws.Slices
import Derived.WalkKit
import Derived.KernelRfl
import Derived.RowKit3
import Derived.Deep.LoopGhost
import Derived.Deep.QuietTactic
import Derived.BigQuiet
import Derived.WideLaws
import Derived.Deep.DeepCutAuto
import Derived.Deep.CutBlock
import Derived.Deep.RegionHeld3
import Derived.Laws.Rows
import Derived.Lib.AppendStr
import Derived.ArgAppend
import Derived.Laws.IdiomCopy
import Derived.OrdersHeld
import Derived.Laws.BitsLemmas
import Derived.RowKit
import Derived.Laws.Cover2
import Derived.Laws.Externs
import Derived.Lib.SmallJoins
import Derived.Outline
import Derived.RegionTactic
import Derived.ChangeAlike
import Derived.Laws.IdiomStrings
import Derived.Lib.AtoiAllCases
import Derived.Lib.AppendIntMem
import Derived.Test.YtmdkbhbconnmmaaDoorLaid
import Derived.Test.YtmdkbhbconnmmaaDoorWWords
import Derived.Test.YtmdkbhbconnmmaaDoorWLast
import Derived.Test.YtmdkbhbconnmmaaDoorWQPut
import Derived.Test.YtmdkbhbconnmmaaDoorWApart
import Derived.Test.YtmdkbhbconnmmaaDoorWZeros
import Derived.Test.YtmdkbhbconnmmaaDoorWFoot
import Derived.Test.YtmdkbhbconnmmaaDoorWKept
import Derived.Test.YtmdkbhbconnmmaaDoorWN
import Derived.Test.YtmdkbhbconnmmaaDoorWEqStruct
import Derived.Test.YtmdkbhbconnmmaaDoorWRepsOne
import Derived.Test.YtmdkbhbconnmmaaDoorWGuard
import Derived.Test.YtmdkbhbconnmmaaDoorWNEv
import Derived.Test.YtmdkbhbconnmmaaDoorWMore
namespace Go.Proofs.YtmdkbhbconnmmaaDoor.XLex
open Go.RowKit Go.Proofs.YtmdkbhbconnmmaaDoorW.PrintWords Go.Proofs.YtmdkbhbconnmmaaDoorW.PrintLast Go.Proofs.YtmdkbhbconnmmaaDoorW.PrintMore
attribute [local go_sem] max2_int min2_int max_two min_two max_three min_three max_four min_four   -- for this text's walks alone
set_option linter.unusedVariables false
set_option linter.unusedSimpArgs false



def errW : Option Int → Value
  | none => .nilIface
  | some c => .iface 0 (.int .i64 c)
theorem errW_none : errW none = .nilIface := rfl
theorem errW_some (c : Int) : errW (some c) = .iface 0 (.int .i64 c) := rfl

-- the values' own types

end Go.Proofs.YtmdkbhbconnmmaaDoor.XLex
