-- written by wip/mp.py of this claim's author, over the print of this machine
import Derived.Test.YtgboppgghidgbaaProg
import Derived.Test.YtgboppgghidgbaaFrGlue3
import Derived.Below
import Derived.Deep.Draws
import Derived.Deep.AppendLies
import Derived.Maps.AppendAt
import Derived.OwnWalk
import Derived.Laws.BytesArg
import Derived.Laws.MakeOwn
import Derived.Laws.OwnMore
import Derived.Deep.OwnRows
import Derived.Tactics
import Derived.Lib.ConvBytes
import Derived.Laws.Slices
import Derived.WalkKit
import Derived.KernelRfl
import Derived.RowKit3
import Derived.Deep.LoopGhost
import Derived.Deep.QuietTactic
import Derived.BigQuiet
import Derived.WideLaws
import Derived.Deep.DeepCutAuto
import Derived.Deep.CutBlock
import Derived.Deep.RegionHeld3
import Derived.Laws.Rows
import Derived.Lib.AppendStr
import Derived.ArgAppend
import Derived.Laws.IdiomCopy
import Derived.OrdersHeld
import Derived.Laws.BitsLemmas
import Derived.RowKit
import Derived.Test.YtgboppgghidgbaaWWords
import Derived.Test.YtgboppgghidgbaaWLast
import Derived.Test.YtgboppgghidgbaaWTab
import Derived.Test.YtgboppgghidgbaaWFour
import Derived.Test.YtgboppgghidgbaaWQPut
import Derived.Test.YtgboppgghidgbaaWApart
import Derived.Test.YtgboppgghidgbaaWArr
import Derived.Test.YtgboppgghidgbaaWZeros
import Derived.Test.YtgboppgghidgbaaWFoot
import Derived.Test.YtgboppgghidgbaaWKept
import Derived.Test.YtgboppgghidgbaaWShare
import Derived.Test.YtgboppgghidgbaaWN
import Derived.Test.YtgboppgghidgbaaWFootNe
import Derived.Test.YtgboppgghidgbaaWAt
import Derived.Test.YtgboppgghidgbaaWEqStruct
import Derived.Test.YtgboppgghidgbaaWRepsOne
import Derived.Test.YtgboppgghidgbaaWInv
import Derived.Test.YtgboppgghidgbaaWInvWords
import Derived.Test.YtgboppgghidgbaaWGuard
import Derived.Test.YtgboppgghidgbaaWNEv
import Derived.Test.YtgboppgghidgbaaWMore
namespace Go.Proofs.Ytgboppgghidgbaa.PH
open Go.Proofs.Ytgboppgghidgbaa.My
open Go.RowKit Go.Proofs.YtgboppgghidgbaaW.PrintWords Go.Proofs.YtgboppgghidgbaaW.PrintLast Go.Proofs.YtgboppgghidgbaaW.PrintMore
attribute [local go_sem] max2_int min2_int max_two min_two max_three min_three max_four min_four   -- for this text's walks alone
set_option linter.unusedVariables false
set_option linter.unusedSimpArgs false



def errW : Option Int → Value
  | none => .nilIface
  | some c => .iface 0 (.int .i64 c)
theorem errW_none : errW none = .nilIface := rfl
theorem errW_some (c : Int) : errW (some c) = .iface 0 (.int .i64 c) := rfl

-- the values' own types

end Go.Proofs.Ytgboppgghidgbaa.PH
