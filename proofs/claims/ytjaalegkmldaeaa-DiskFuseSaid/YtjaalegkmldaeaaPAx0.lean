-- written by wip/mp.py of this claim's author, over the print of this machine
import Derived.Test.YtjaalegkmldaeaaProg
import Derived.Test.YtjaalegkmldaeaaDkB
import Derived.Below
import Derived.Deep.Draws
import Derived.Deep.AppendLies
import Derived.Maps.AppendAt
import Derived.OwnWalk
import Derived.Laws.BytesArg
import Derived.Laws.MakeOwn
import Derived.Laws.OwnMore
import Derived.Deep.OwnRows
import Derived.Tactics
import Derived.Lib.ConvBytes
import Derived.Laws.Slices
import Derived.WalkKit
import Derived.KernelRfl
import Derived.RowKit3
import Derived.Deep.LoopGhost
import Derived.Deep.QuietTactic
import Derived.BigQuiet
import Derived.WideLaws
import Derived.Deep.DeepCutAuto
import Derived.Deep.CutBlock
import Derived.Deep.RegionHeld3
import Derived.Laws.Rows
import Derived.Lib.AppendStr
import Derived.ArgAppend
import Derived.Laws.IdiomCopy
import Derived.OrdersHeld
import Derived.Laws.BitsLemmas
import Derived.RowKit
import Derived.Test.YtjaalegkmldaeaaWWords
import Derived.Test.YtjaalegkmldaeaaWLast
import Derived.Test.YtjaalegkmldaeaaWTab
import Derived.Test.YtjaalegkmldaeaaWFour
import Derived.Test.YtjaalegkmldaeaaWQPut
import Derived.Test.YtjaalegkmldaeaaWApart
import Derived.Test.YtjaalegkmldaeaaWArr
import Derived.Test.YtjaalegkmldaeaaWZeros
import Derived.Test.YtjaalegkmldaeaaWFoot
import Derived.Test.YtjaalegkmldaeaaWKept
import Derived.Test.YtjaalegkmldaeaaWShare
import Derived.Test.YtjaalegkmldaeaaWN
import Derived.Test.YtjaalegkmldaeaaWFootNe
import Derived.Test.YtjaalegkmldaeaaWAt
import Derived.Test.YtjaalegkmldaeaaWEqStruct
import Derived.Test.YtjaalegkmldaeaaWRepsOne
import Derived.Test.YtjaalegkmldaeaaWInv
import Derived.Test.YtjaalegkmldaeaaWInvWords
import Derived.Test.YtjaalegkmldaeaaWGuard
import Derived.Test.YtjaalegkmldaeaaWNEv
import Derived.Test.YtjaalegkmldaeaaWMore
namespace Go.Proofs.Ytjaalegkmldaeaa.PA
open Go.Proofs.Ytjaalegkmldaeaa.My
open Go.RowKit Go.Proofs.YtjaalegkmldaeaaW.PrintWords Go.Proofs.YtjaalegkmldaeaaW.PrintLast Go.Proofs.YtjaalegkmldaeaaW.PrintMore
attribute [local go_sem] max2_int min2_int max_two min_two max_three min_three max_four min_four   -- for this text's walks alone
set_option linter.unusedVariables false
set_option linter.unusedSimpArgs false



def errW : Option Int → Value
  | none => .nilIface
  | some c => .iface 0 (.int .i64 c)
theorem errW_none : errW none = .nilIface := rfl
theorem errW_some (c : Int) : errW (some c) = .iface 0 (.int .i64 c) := rfl

theorem info5 : (Try.prog.info? 5).map (fun i => (i.zero, i.size, i.bytes)) = some (some (.int .u8 0), 1, 1) := by kernel_rfl
-- the values' own types
/-! #### struct type 91 -/
structure S91 where
  f0 : Int
  f1 : ByteArray
def k91 : Kd S91 := Kd.iso (Kd.pair (Kd.int .i64) Kd.string) (fun x : S91 => (x.f0, x.f1))
/-! #### struct type 62 -/
structure S62 where
  f0 : Int
  f1 : ByteArray
end Go.Proofs.Ytjaalegkmldaeaa.PA
