-- PRINTED BY print.sh 35421559b90ae4d0a3588c463048766b98c2df88dd9212a6774a882060cdf62d: not written by this session
import Derived.Test.YteoehlcjllbhfaaProg
import Derived.Below
import Derived.Deep.Draws
import Derived.Deep.AppendLies
import Derived.Maps.AppendAt
import Derived.OwnWalk
import Derived.Laws.BytesArg
import Derived.Laws.MakeOwn
import Derived.Laws.OwnMore
import Derived.Deep.OwnRows
import Derived.Tactics
import Derived.Lib.ConvBytes
import Derived.Laws.Slices
import Derived.WalkKit
import Derived.KernelRfl
import Derived.RowKit3
import Derived.Deep.LoopGhost
import Derived.Deep.QuietTactic
import Derived.BigQuiet
import Derived.WideLaws
import Derived.Deep.DeepCutAuto
import Derived.Deep.CutBlock
import Derived.Deep.RegionHeld3
import Derived.Laws.Rows
import Derived.Lib.AppendStr
import Derived.ArgAppend
import Derived.Laws.IdiomCopy
import Derived.OrdersHeld
import Derived.Laws.BitsLemmas
import Derived.RowKit
import Derived.Test.YteoehlcjllbhfaaWWords
import Derived.Test.YteoehlcjllbhfaaWLast
import Derived.Test.YteoehlcjllbhfaaWTab
import Derived.Test.YteoehlcjllbhfaaWFour
import Derived.Test.YteoehlcjllbhfaaWQPut
import Derived.Test.YteoehlcjllbhfaaWApart
import Derived.Test.YteoehlcjllbhfaaWArr
import Derived.Test.YteoehlcjllbhfaaWZeros
import Derived.Test.YteoehlcjllbhfaaWFoot
import Derived.Test.YteoehlcjllbhfaaWKept
import Derived.Test.YteoehlcjllbhfaaWShare
import Derived.Test.YteoehlcjllbhfaaWN
import Derived.Test.YteoehlcjllbhfaaWFootNe
import Derived.Test.YteoehlcjllbhfaaWAt
import Derived.Test.YteoehlcjllbhfaaWEqStruct
import Derived.Test.YteoehlcjllbhfaaWRepsOne
import Derived.Test.YteoehlcjllbhfaaWInv
import Derived.Test.YteoehlcjllbhfaaWInvWords
import Derived.Test.YteoehlcjllbhfaaWGuard
import Derived.Test.YteoehlcjllbhfaaWNEv
import Derived.Test.YteoehlcjllbhfaaWMore
namespace Go.Proofs.Yteoehlcjllbhfaa.PTimesDays
open Go.RowKit Go.Proofs.YteoehlcjllbhfaaW.PrintWords Go.Proofs.YteoehlcjllbhfaaW.PrintLast Go.Proofs.YteoehlcjllbhfaaW.PrintMore
attribute [local go_sem] max2_int min2_int max_two min_two max_three min_three max_four min_four   -- for this text's walks alone
set_option linter.unusedVariables false
set_option linter.unusedSimpArgs false



def errW : Option Int → Value
  | none => .nilIface
  | some c => .iface 0 (.int .i64 c)
theorem errW_none : errW none = .nilIface := rfl
theorem errW_some (c : Int) : errW (some c) = .iface 0 (.int .i64 c) := rfl

-- the values' own types

end Go.Proofs.Yteoehlcjllbhfaa.PTimesDays
