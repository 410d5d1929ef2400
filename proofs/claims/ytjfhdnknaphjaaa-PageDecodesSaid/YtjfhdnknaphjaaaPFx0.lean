-- written by wip/mp.py of this claim's author, over the print of this machine
import Derived.Test.YtjfhdnknaphjaaaProg
import Derived.Test.YtjfhdnknaphjaaaPgGlue
import Derived.Test.YtjfhdnknaphjaaaRefOn
import Derived.Test.YtjfhdnknaphjaaaPgEncC
import Derived.Test.YtjfhdnknaphjaaaPgEnds
import Derived.Below
import Derived.Deep.Draws
import Derived.Deep.AppendLies
import Derived.Maps.AppendAt
import Derived.OwnWalk
import Derived.Laws.BytesArg
import Derived.Laws.MakeOwn
import Derived.Laws.OwnMore
import Derived.Deep.OwnRows
import Derived.Tactics
import Derived.Lib.ConvBytes
import Derived.Laws.Slices
import Derived.WalkKit
import Derived.KernelRfl
import Derived.RowKit3
import Derived.Deep.LoopGhost
import Derived.Deep.QuietTactic
import Derived.BigQuiet
import Derived.WideLaws
import Derived.Deep.DeepCutAuto
import Derived.Deep.CutBlock
import Derived.Deep.RegionHeld3
import Derived.Laws.Rows
import Derived.Lib.AppendStr
import Derived.ArgAppend
import Derived.Laws.IdiomCopy
import Derived.OrdersHeld
import Derived.Laws.BitsLemmas
import Derived.RowKit
import Derived.Test.YtjfhdnknaphjaaaWWords
import Derived.Test.YtjfhdnknaphjaaaWLast
import Derived.Test.YtjfhdnknaphjaaaWTab
import Derived.Test.YtjfhdnknaphjaaaWFour
import Derived.Test.YtjfhdnknaphjaaaWQPut
import Derived.Test.YtjfhdnknaphjaaaWApart
import Derived.Test.YtjfhdnknaphjaaaWArr
import Derived.Test.YtjfhdnknaphjaaaWZeros
import Derived.Test.YtjfhdnknaphjaaaWFoot
import Derived.Test.YtjfhdnknaphjaaaWKept
import Derived.Test.YtjfhdnknaphjaaaWShare
import Derived.Test.YtjfhdnknaphjaaaWN
import Derived.Test.YtjfhdnknaphjaaaWFootNe
import Derived.Test.YtjfhdnknaphjaaaWAt
import Derived.Test.YtjfhdnknaphjaaaWEqStruct
import Derived.Test.YtjfhdnknaphjaaaWRepsOne
import Derived.Test.YtjfhdnknaphjaaaWInv
import Derived.Test.YtjfhdnknaphjaaaWInvWords
import Derived.Test.YtjfhdnknaphjaaaWGuard
import Derived.Test.YtjfhdnknaphjaaaWNEv
import Derived.Test.YtjfhdnknaphjaaaWMore
namespace Go.Proofs.Ytjfhdnknaphjaaa.PF
open Go.Proofs.Ytjfhdnknaphjaaa.My
open Go.RowKit Go.Proofs.YtjfhdnknaphjaaaW.PrintWords Go.Proofs.YtjfhdnknaphjaaaW.PrintLast Go.Proofs.YtjfhdnknaphjaaaW.PrintMore
attribute [local go_sem] max2_int min2_int max_two min_two max_three min_three max_four min_four   -- for this text's walks alone
set_option linter.unusedVariables false
set_option linter.unusedSimpArgs false



def errW : Option Int → Value
  | none => .nilIface
  | some c => .iface 0 (.int .i64 c)
theorem errW_none : errW none = .nilIface := rfl
theorem errW_some (c : Int) : errW (some c) = .iface 0 (.int .i64 c) := rfl

theorem info5 : (Try.prog.info? 5).map (fun i => (i.zero, i.size, i.bytes)) = some (some (.int .u8 0), 1, 1) := by kernel_rfl
-- the values' own types

end Go.Proofs.Ytjfhdnknaphjaaa.PF
