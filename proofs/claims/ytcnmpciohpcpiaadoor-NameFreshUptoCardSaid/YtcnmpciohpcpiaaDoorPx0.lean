-- Printed by a program of this session (wip/patch-print.py over the kit's print): Lean checks it.
import Derived.Test.YtcnmpciohpcpiaaDoorProg
import Derived.Below
import Derived.Deep.Draws
import Derived.Deep.AppendLies
import Derived.Maps.AppendAt
import Derived.OwnWalk
import Derived.Laws.BytesArg
import Derived.Laws.MakeOwn
import Derived.Laws.OwnMore
import Derived.Deep.OwnRows
import Derived.Tactics
import Derived.Lib.ConvBytes
import Derived.Laws.Slices
import Derived.WalkKit
import Derived.KernelRfl
import Derived.RowKit3
import Derived.Deep.LoopGhost
import Derived.Deep.QuietTactic
import Derived.BigQuiet
import Derived.WideLaws
import Derived.Deep.DeepCutAuto
import Derived.Deep.CutBlock
import Derived.Deep.RegionHeld3
import Derived.Laws.Rows
import Derived.Lib.AppendStr
import Derived.ArgAppend
import Derived.Laws.IdiomCopy
import Derived.OrdersHeld
import Derived.Laws.BitsLemmas
import Derived.RowKit
import Derived.Test.YtcnmpciohpcpiaaDoorCaps
import Derived.Test.YtcnmpciohpcpiaaDoorTabs
import Derived.Test.YtcnmpciohpcpiaaDoorWWords
import Derived.Test.YtcnmpciohpcpiaaDoorWLast
import Derived.Test.YtcnmpciohpcpiaaDoorWTab
import Derived.Test.YtcnmpciohpcpiaaDoorWFour
import Derived.Test.YtcnmpciohpcpiaaDoorWQPut
import Derived.Test.YtcnmpciohpcpiaaDoorWApart
import Derived.Test.YtcnmpciohpcpiaaDoorWArr
import Derived.Test.YtcnmpciohpcpiaaDoorWZeros
import Derived.Test.YtcnmpciohpcpiaaDoorWFoot
import Derived.Test.YtcnmpciohpcpiaaDoorWKept
import Derived.Test.YtcnmpciohpcpiaaDoorWShare
import Derived.Test.YtcnmpciohpcpiaaDoorWN
import Derived.Test.YtcnmpciohpcpiaaDoorWFootNe
import Derived.Test.YtcnmpciohpcpiaaDoorWAt
import Derived.Test.YtcnmpciohpcpiaaDoorWEqStruct
import Derived.Test.YtcnmpciohpcpiaaDoorWRepsOne
import Derived.Test.YtcnmpciohpcpiaaDoorWInv
import Derived.Test.YtcnmpciohpcpiaaDoorWInvWords
import Derived.Test.YtcnmpciohpcpiaaDoorWGuard
import Derived.Test.YtcnmpciohpcpiaaDoorWNEv
import Derived.Test.YtcnmpciohpcpiaaDoorWMore
namespace Go.Proofs.YtcnmpciohpcpiaaDoor.P
open Go.Proofs.YtcnmpciohpcpiaaDoorTabs
open Go.Proofs.YtcnmpciohpcpiaaDoorCaps
open Go.RowKit Go.Proofs.YtcnmpciohpcpiaaDoorW.PrintWords Go.Proofs.YtcnmpciohpcpiaaDoorW.PrintLast Go.Proofs.YtcnmpciohpcpiaaDoorW.PrintMore
attribute [local go_sem] max2_int min2_int max_two min_two max_three min_three max_four min_four   -- for this text's walks alone
set_option linter.unusedVariables false
set_option linter.unusedSimpArgs false



def errW : Option Int → Value
  | none => .nilIface
  | some c => .iface 0 (.int .i64 c)
theorem errW_none : errW none = .nilIface := rfl
theorem errW_some (c : Int) : errW (some c) = .iface 0 (.int .i64 c) := rfl

theorem info5 : (Tryd.prog.info? 5).map (fun i => (i.zero, i.size, i.bytes)) = some (some (.int .u8 0), 1, 1) := by kernel_rfl
theorem info21 : (Tryd.prog.info? 21).map (fun i => (i.zero, i.size, i.bytes)) = some (some (.int .i32 0), 1, 4) := by kernel_rfl
theorem info53 : (Tryd.prog.info? 53).map (fun i => (i.zero, i.size, i.bytes)) = some (some (.int .u64 0), 1, 8) := by kernel_rfl
-- the values' own types

end Go.Proofs.YtcnmpciohpcpiaaDoor.P
