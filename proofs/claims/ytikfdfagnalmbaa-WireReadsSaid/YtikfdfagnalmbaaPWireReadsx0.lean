-- PRINTED BY print.sh 35421559b90ae4d0a3588c463048766b98c2df88dd9212a6774a882060cdf62d: not written by this session
import Derived.Test.YtikfdfagnalmbaaProg
import Derived.Below
import Derived.Deep.Draws
import Derived.Deep.AppendLies
import Derived.Maps.AppendAt
import Derived.OwnWalk
import Derived.Laws.BytesArg
import Derived.Laws.MakeOwn
import Derived.Laws.OwnMore
import Derived.Deep.OwnRows
import Derived.Tactics
import Derived.Lib.ConvBytes
import Derived.Laws.Slices
import Derived.WalkKit
import Derived.KernelRfl
import Derived.RowKit3
import Derived.Deep.LoopGhost
import Derived.Deep.QuietTactic
import Derived.BigQuiet
import Derived.WideLaws
import Derived.Deep.DeepCutAuto
import Derived.Deep.CutBlock
import Derived.Deep.RegionHeld3
import Derived.Laws.Rows
import Derived.Lib.AppendStr
import Derived.ArgAppend
import Derived.Laws.IdiomCopy
import Derived.OrdersHeld
import Derived.Laws.BitsLemmas
import Derived.RowKit
import Derived.Test.YtikfdfagnalmbaaWWords
import Derived.Test.YtikfdfagnalmbaaWLast
import Derived.Test.YtikfdfagnalmbaaWTab
import Derived.Test.YtikfdfagnalmbaaWFour
import Derived.Test.YtikfdfagnalmbaaWQPut
import Derived.Test.YtikfdfagnalmbaaWApart
import Derived.Test.YtikfdfagnalmbaaWArr
import Derived.Test.YtikfdfagnalmbaaWZeros
import Derived.Test.YtikfdfagnalmbaaWFoot
import Derived.Test.YtikfdfagnalmbaaWKept
import Derived.Test.YtikfdfagnalmbaaWShare
import Derived.Test.YtikfdfagnalmbaaWN
import Derived.Test.YtikfdfagnalmbaaWFootNe
import Derived.Test.YtikfdfagnalmbaaWAt
import Derived.Test.YtikfdfagnalmbaaWEqStruct
import Derived.Test.YtikfdfagnalmbaaWRepsOne
import Derived.Test.YtikfdfagnalmbaaWInv
import Derived.Test.YtikfdfagnalmbaaWInvWords
import Derived.Test.YtikfdfagnalmbaaWGuard
import Derived.Test.YtikfdfagnalmbaaWNEv
import Derived.Test.YtikfdfagnalmbaaWMore
namespace Go.Proofs.Ytikfdfagnalmbaa.PWireReads
open Go.RowKit Go.Proofs.YtikfdfagnalmbaaW.PrintWords Go.Proofs.YtikfdfagnalmbaaW.PrintLast Go.Proofs.YtikfdfagnalmbaaW.PrintMore
attribute [local go_sem] max2_int min2_int max_two min_two max_three min_three max_four min_four   -- for this text's walks alone
set_option linter.unusedVariables false
set_option linter.unusedSimpArgs false



def errW : Option Int → Value
  | none => .nilIface
  | some c => .iface 0 (.int .i64 c)
theorem errW_none : errW none = .nilIface := rfl
theorem errW_some (c : Int) : errW (some c) = .iface 0 (.int .i64 c) := rfl

-- the values' own types

end Go.Proofs.Ytikfdfagnalmbaa.PWireReads
