-- Written by hp.py, a program of this seat, which calls the kit's printer; contracts proved by hand stand among the printed ones. Lean checks it.
import Derived.Test.YtbckkllhobcgjaaProg
import Derived.Below
import Derived.Deep.Draws
import Derived.Deep.AppendLies
import Derived.Maps.AppendAt
import Derived.OwnWalk
import Derived.Laws.BytesArg
import Derived.Laws.MakeOwn
import Derived.Laws.OwnMore
import Derived.Deep.OwnRows
import Derived.Tactics
import Derived.Lib.ConvBytes
import Derived.Laws.Slices
import Derived.WalkKit
import Derived.KernelRfl
import Derived.RowKit3
import Derived.Deep.LoopGhost
import Derived.Deep.QuietTactic
import Derived.BigQuiet
import Derived.WideLaws
import Derived.Deep.DeepCutAuto
import Derived.Deep.CutBlock
import Derived.Deep.RegionHeld3
import Derived.Laws.Rows
import Derived.Lib.AppendStr
import Derived.ArgAppend
import Derived.Laws.IdiomCopy
import Derived.OrdersHeld
import Derived.Laws.BitsLemmas
import Derived.RowKit
import Derived.OpenShut
import Derived.Test.YtbckkllhobcgjaaWWords
import Derived.Test.YtbckkllhobcgjaaWLast
import Derived.Test.YtbckkllhobcgjaaWTab
import Derived.Test.YtbckkllhobcgjaaWFour
import Derived.Test.YtbckkllhobcgjaaWQPut
import Derived.Test.YtbckkllhobcgjaaWApart
import Derived.Test.YtbckkllhobcgjaaWArr
import Derived.Test.YtbckkllhobcgjaaWZeros
import Derived.Test.YtbckkllhobcgjaaWFoot
import Derived.Test.YtbckkllhobcgjaaWKept
import Derived.Test.YtbckkllhobcgjaaWShare
import Derived.Test.YtbckkllhobcgjaaWN
import Derived.Test.YtbckkllhobcgjaaWFootNe
import Derived.Test.YtbckkllhobcgjaaWAt
import Derived.Test.YtbckkllhobcgjaaWEqStruct
import Derived.Test.YtbckkllhobcgjaaWRepsOne
import Derived.Test.YtbckkllhobcgjaaWInv
import Derived.Test.YtbckkllhobcgjaaWInvWords
import Derived.Test.YtbckkllhobcgjaaWGuard
import Derived.Test.YtbckkllhobcgjaaWNEv
import Derived.Test.YtbckkllhobcgjaaWMore
namespace Go.Proofs.Ytbckkllhobcgjaa.P
open Go.RowKit Go.Proofs.YtbckkllhobcgjaaW.PrintWords Go.Proofs.YtbckkllhobcgjaaW.PrintLast Go.Proofs.YtbckkllhobcgjaaW.PrintMore
attribute [local go_sem] max2_int min2_int max_two min_two max_three min_three max_four min_four   -- for this text's walks alone
set_option linter.unusedVariables false
set_option linter.unusedSimpArgs false



def errW : Option Int → Value
  | none => .nilIface
  | some c => .iface 0 (.int .i64 c)
theorem errW_none : errW none = .nilIface := rfl
theorem errW_some (c : Int) : errW (some c) = .iface 0 (.int .i64 c) := rfl

theorem info3 : (Try.prog.info? 3).map (fun i => (i.zero, i.size, i.bytes)) = some (some (.int .i64 0), 1, 8) := by kernel_rfl
theorem info5 : (Try.prog.info? 5).map (fun i => (i.zero, i.size, i.bytes)) = some (some (.int .u8 0), 1, 1) := by kernel_rfl
-- the values' own types

end Go.Proofs.Ytbckkllhobcgjaa.P
