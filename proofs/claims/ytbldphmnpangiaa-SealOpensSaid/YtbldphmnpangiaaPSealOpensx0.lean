-- written by a program of this session (wip/gen/print2.sh)
import Derived.Test.YtbldphmnpangiaaProg
import Derived.Below
import Derived.Deep.Draws
import Derived.Deep.AppendLies
import Derived.Maps.AppendAt
import Derived.OwnWalk
import Derived.Laws.BytesArg
import Derived.Laws.MakeOwn
import Derived.Laws.OwnMore
import Derived.Deep.OwnRows
import Derived.Tactics
import Derived.Lib.ConvBytes
import Derived.Laws.Slices
import Derived.WalkKit
import Derived.KernelRfl
import Derived.RowKit3
import Derived.Deep.LoopGhost
import Derived.Deep.QuietTactic
import Derived.BigQuiet
import Derived.WideLaws
import Derived.Deep.DeepCutAuto
import Derived.Deep.CutBlock
import Derived.Deep.RegionHeld3
import Derived.Laws.Rows
import Derived.Lib.AppendStr
import Derived.ArgAppend
import Derived.Laws.IdiomCopy
import Derived.OrdersHeld
import Derived.Laws.BitsLemmas
import Derived.RowKit
import Derived.Test.YtbldphmnpangiaaWWords
import Derived.Test.YtbldphmnpangiaaWLast
import Derived.Test.YtbldphmnpangiaaWTab
import Derived.Test.YtbldphmnpangiaaWFour
import Derived.Test.YtbldphmnpangiaaWQPut
import Derived.Test.YtbldphmnpangiaaWApart
import Derived.Test.YtbldphmnpangiaaWArr
import Derived.Test.YtbldphmnpangiaaWZeros
import Derived.Test.YtbldphmnpangiaaWFoot
import Derived.Test.YtbldphmnpangiaaWKept
import Derived.Test.YtbldphmnpangiaaWShare
import Derived.Test.YtbldphmnpangiaaWN
import Derived.Test.YtbldphmnpangiaaWFootNe
import Derived.Test.YtbldphmnpangiaaWAt
import Derived.Test.YtbldphmnpangiaaWEqStruct
import Derived.Test.YtbldphmnpangiaaWRepsOne
import Derived.Test.YtbldphmnpangiaaWInv
import Derived.Test.YtbldphmnpangiaaWInvWords
import Derived.Test.YtbldphmnpangiaaWGuard
import Derived.Test.YtbldphmnpangiaaWNEv
import Derived.Test.YtbldphmnpangiaaWMore
namespace Go.Proofs.Ytbldphmnpangiaa.PSealOpens
open Go.RowKit Go.Proofs.YtbldphmnpangiaaW.PrintWords Go.Proofs.YtbldphmnpangiaaW.PrintLast Go.Proofs.YtbldphmnpangiaaW.PrintMore
attribute [local go_sem] max2_int min2_int max_two min_two max_three min_three max_four min_four   -- for this text's walks alone
set_option linter.unusedVariables false
set_option linter.unusedSimpArgs false



def errW : Option Int → Value
  | none => .nilIface
  | some c => .iface 0 (.int .i64 c)
theorem errW_none : errW none = .nilIface := rfl
theorem errW_some (c : Int) : errW (some c) = .iface 0 (.int .i64 c) := rfl

theorem info5 : (Try.prog.info? 5).map (fun i => (i.zero, i.size, i.bytes)) = some (some (.int .u8 0), 1, 1) := by kernel_rfl
theorem info9 : (Try.prog.info? 9).map (fun i => (i.zero, i.size, i.bytes)) = some (some (.string ⟨#[]⟩), 1, 16) := by kernel_rfl
-- the values' own types

end Go.Proofs.Ytbldphmnpangiaa.PSealOpens
