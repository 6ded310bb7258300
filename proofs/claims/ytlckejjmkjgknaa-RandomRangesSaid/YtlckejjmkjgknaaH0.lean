-- Written by hyb.sh (a program of this session, over the kit's printer), for the seat Ytlckejjmkjgknaa.
import Derived.Test.YtlckejjmkjgknaaProg
import Derived.Below
import Derived.Deep.Draws
import Derived.Deep.AppendLies
import Derived.Maps.AppendAt
import Derived.OwnWalk
import Derived.Laws.BytesArg
import Derived.Laws.MakeOwn
import Derived.Laws.OwnMore
import Derived.Deep.OwnRows
import Derived.Tactics
import Derived.Lib.ConvBytes
import Derived.Laws.Slices
import Derived.WalkKit
import Derived.KernelRfl
import Derived.RowKit3
import Derived.Deep.LoopGhost
import Derived.Deep.QuietTactic
import Derived.BigQuiet
import Derived.WideLaws
import Derived.Deep.DeepCutAuto
import Derived.Deep.CutBlock
import Derived.Deep.RegionHeld3
import Derived.Laws.Rows
import Derived.Lib.AppendStr
import Derived.ArgAppend
import Derived.Laws.IdiomCopy
import Derived.OrdersHeld
import Derived.Laws.BitsLemmas
import Derived.RowKit
import Derived.Test.YtlckejjmkjgknaaWWords
import Derived.Test.YtlckejjmkjgknaaWLast
import Derived.Test.YtlckejjmkjgknaaWTab
import Derived.Test.YtlckejjmkjgknaaWFour
import Derived.Test.YtlckejjmkjgknaaWQPut
import Derived.Test.YtlckejjmkjgknaaWApart
import Derived.Test.YtlckejjmkjgknaaWArr
import Derived.Test.YtlckejjmkjgknaaWZeros
import Derived.Test.YtlckejjmkjgknaaWFoot
import Derived.Test.YtlckejjmkjgknaaWKept
import Derived.Test.YtlckejjmkjgknaaWShare
import Derived.Test.YtlckejjmkjgknaaWN
import Derived.Test.YtlckejjmkjgknaaWFootNe
import Derived.Test.YtlckejjmkjgknaaWAt
import Derived.Test.YtlckejjmkjgknaaWEqStruct
import Derived.Test.YtlckejjmkjgknaaWRepsOne
import Derived.Test.YtlckejjmkjgknaaWInv
import Derived.Test.YtlckejjmkjgknaaWInvWords
import Derived.Test.YtlckejjmkjgknaaWGuard
import Derived.Test.YtlckejjmkjgknaaWNEv
import Derived.Test.YtlckejjmkjgknaaWMore
namespace Go.Proofs.Ytlckejjmkjgknaa.Hy
open Go.RowKit Go.Proofs.YtlckejjmkjgknaaW.PrintWords Go.Proofs.YtlckejjmkjgknaaW.PrintLast Go.Proofs.YtlckejjmkjgknaaW.PrintMore
attribute [local go_sem] max2_int min2_int max_two min_two max_three min_three max_four min_four   -- for this text's walks alone
set_option linter.unusedVariables false
set_option linter.unusedSimpArgs false



def errW : Option Int → Value
  | none => .nilIface
  | some c => .iface 0 (.int .i64 c)
theorem errW_none : errW none = .nilIface := rfl
theorem errW_some (c : Int) : errW (some c) = .iface 0 (.int .i64 c) := rfl

theorem info3 : (Try.prog.info? 3).map (fun i => (i.zero, i.size, i.bytes)) = some (some (.int .i64 0), 1, 8) := by kernel_rfl
theorem info4 : (Try.prog.info? 4).map (fun i => (i.zero, i.size, i.bytes)) = some (some (.bool false), 1, 1) := by kernel_rfl
-- the values' own types

end Go.Proofs.Ytlckejjmkjgknaa.Hy
