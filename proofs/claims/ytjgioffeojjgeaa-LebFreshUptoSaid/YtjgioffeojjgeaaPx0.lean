-- Printed by a program of this session (wip/patch-print.py over the kit's print): Lean checks it.
import Derived.Test.YtjgioffeojjgeaaProg
import Derived.Below
import Derived.Deep.Draws
import Derived.Deep.AppendLies
import Derived.Maps.AppendAt
import Derived.OwnWalk
import Derived.Laws.BytesArg
import Derived.Laws.MakeOwn
import Derived.Laws.OwnMore
import Derived.Deep.OwnRows
import Derived.Tactics
import Derived.Lib.ConvBytes
import Derived.Laws.Slices
import Derived.WalkKit
import Derived.KernelRfl
import Derived.RowKit3
import Derived.Deep.LoopGhost
import Derived.Deep.QuietTactic
import Derived.BigQuiet
import Derived.WideLaws
import Derived.Deep.DeepCutAuto
import Derived.Deep.CutBlock
import Derived.Deep.RegionHeld3
import Derived.Laws.Rows
import Derived.Lib.AppendStr
import Derived.ArgAppend
import Derived.Laws.IdiomCopy
import Derived.OrdersHeld
import Derived.Laws.BitsLemmas
import Derived.RowKit
import Derived.Test.YtjgioffeojjgeaaCaps
import Derived.Test.YtjgioffeojjgeaaWWords
import Derived.Test.YtjgioffeojjgeaaWLast
import Derived.Test.YtjgioffeojjgeaaWTab
import Derived.Test.YtjgioffeojjgeaaWFour
import Derived.Test.YtjgioffeojjgeaaWQPut
import Derived.Test.YtjgioffeojjgeaaWApart
import Derived.Test.YtjgioffeojjgeaaWArr
import Derived.Test.YtjgioffeojjgeaaWZeros
import Derived.Test.YtjgioffeojjgeaaWFoot
import Derived.Test.YtjgioffeojjgeaaWKept
import Derived.Test.YtjgioffeojjgeaaWShare
import Derived.Test.YtjgioffeojjgeaaWN
import Derived.Test.YtjgioffeojjgeaaWFootNe
import Derived.Test.YtjgioffeojjgeaaWAt
import Derived.Test.YtjgioffeojjgeaaWEqStruct
import Derived.Test.YtjgioffeojjgeaaWRepsOne
import Derived.Test.YtjgioffeojjgeaaWInv
import Derived.Test.YtjgioffeojjgeaaWInvWords
import Derived.Test.YtjgioffeojjgeaaWGuard
import Derived.Test.YtjgioffeojjgeaaWNEv
import Derived.Test.YtjgioffeojjgeaaWMore
namespace Go.Proofs.Ytjgioffeojjgeaa.P
open Go.Proofs.YtjgioffeojjgeaaCaps
open Go.RowKit Go.Proofs.YtjgioffeojjgeaaW.PrintWords Go.Proofs.YtjgioffeojjgeaaW.PrintLast Go.Proofs.YtjgioffeojjgeaaW.PrintMore
attribute [local go_sem] max2_int min2_int max_two min_two max_three min_three max_four min_four   -- for this text's walks alone
set_option linter.unusedVariables false
set_option linter.unusedSimpArgs false



def errW : Option Int → Value
  | none => .nilIface
  | some c => .iface 0 (.int .i64 c)
theorem errW_none : errW none = .nilIface := rfl
theorem errW_some (c : Int) : errW (some c) = .iface 0 (.int .i64 c) := rfl

theorem info5 : (Try.prog.info? 5).map (fun i => (i.zero, i.size, i.bytes)) = some (some (.int .u8 0), 1, 1) := by kernel_rfl
theorem info23 : (Try.prog.info? 23).map (fun i => (i.zero, i.size, i.bytes)) = some (some (.int .u64 0), 1, 8) := by kernel_rfl
-- the values' own types

end Go.Proofs.Ytjgioffeojjgeaa.P
