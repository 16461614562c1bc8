-- WRITTEN BY wip/tools/xprint.py out of the translation: the kit's print with this work's hooks.
import Derived.Test.YtmdkbhbconnmmaaProg
import Derived.Below
import Derived.Deep.Draws
import Derived.Deep.AppendLies
import Derived.Maps.AppendAt
import Derived.OwnWalk
import Derived.Laws.BytesArg
import Derived.Laws.MakeOwn
import Derived.Laws.OwnMore
import Derived.Deep.OwnRows
import Derived.Tactics
import Derived.Lib.ConvBytes
import Derived.Laws.Slices
import Derived.WalkKit
import Derived.KernelRfl
import Derived.RowKit3
import Derived.Deep.LoopGhost
import Derived.Deep.QuietTactic
import Derived.BigQuiet
import Derived.WideLaws
import Derived.Deep.DeepCutAuto
import Derived.Deep.CutBlock
import Derived.Deep.RegionHeld3
import Derived.Laws.Rows
import Derived.Lib.AppendStr
import Derived.ArgAppend
import Derived.Laws.IdiomCopy
import Derived.OrdersHeld
import Derived.Laws.BitsLemmas
import Derived.RowKit
import Derived.Test.YtmdkbhbconnmmaaWWords
import Derived.Test.YtmdkbhbconnmmaaWLast
import Derived.Test.YtmdkbhbconnmmaaWTab
import Derived.Test.YtmdkbhbconnmmaaWFour
import Derived.Test.YtmdkbhbconnmmaaWQPut
import Derived.Test.YtmdkbhbconnmmaaWApart
import Derived.Test.YtmdkbhbconnmmaaWArr
import Derived.Test.YtmdkbhbconnmmaaWZeros
import Derived.Test.YtmdkbhbconnmmaaWFoot
import Derived.Test.YtmdkbhbconnmmaaWKept
import Derived.Test.YtmdkbhbconnmmaaWShare
import Derived.Test.YtmdkbhbconnmmaaWN
import Derived.Test.YtmdkbhbconnmmaaWFootNe
import Derived.Test.YtmdkbhbconnmmaaWAt
import Derived.Test.YtmdkbhbconnmmaaWEqStruct
import Derived.Test.YtmdkbhbconnmmaaWRepsOne
import Derived.Test.YtmdkbhbconnmmaaWInv
import Derived.Test.YtmdkbhbconnmmaaWInvWords
import Derived.Test.YtmdkbhbconnmmaaWGuard
import Derived.Test.YtmdkbhbconnmmaaWNEv
import Derived.Test.YtmdkbhbconnmmaaWMore
namespace Go.Proofs.Ytmdkbhbconnmmaa.XDeclCells
open Go.RowKit Go.Proofs.YtmdkbhbconnmmaaW.PrintWords Go.Proofs.YtmdkbhbconnmmaaW.PrintLast Go.Proofs.YtmdkbhbconnmmaaW.PrintMore
attribute [local go_sem] max2_int min2_int max_two min_two max_three min_three max_four min_four   -- for this text's walks alone
set_option linter.unusedVariables false
set_option linter.unusedSimpArgs false



def errW : Option Int → Value
  | none => .nilIface
  | some c => .iface 0 (.int .i64 c)
theorem errW_none : errW none = .nilIface := rfl
theorem errW_some (c : Int) : errW (some c) = .iface 0 (.int .i64 c) := rfl

-- the values' own types

end Go.Proofs.Ytmdkbhbconnmmaa.XDeclCells
