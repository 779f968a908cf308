-- Written by a program of this session out of the translation (a changed copy of the kit's printer).
import Derived.Test.YtbifignggnfodaaProg
import Derived.Below
import Derived.Deep.Draws
import Derived.Deep.AppendLies
import Derived.Maps.AppendAt
import Derived.OwnWalk
import Derived.Laws.BytesArg
import Derived.Laws.MakeOwn
import Derived.Laws.OwnMore
import Derived.Deep.OwnRows
import Derived.Tactics
import Derived.Lib.ConvBytes
import Derived.Laws.Slices
import Derived.WalkKit
import Derived.KernelRfl
import Derived.RowKit3
import Derived.Deep.LoopGhost
import Derived.Deep.QuietTactic
import Derived.BigQuiet
import Derived.WideLaws
import Derived.Deep.DeepCutAuto
import Derived.Deep.CutBlock
import Derived.Deep.RegionHeld3
import Derived.Laws.Rows
import Derived.Lib.AppendStr
import Derived.ArgAppend
import Derived.Laws.IdiomCopy
import Derived.OrdersHeld
import Derived.Laws.BitsLemmas
import Derived.RowKit
import Derived.Test.YtbifignggnfodaaWWords
import Derived.Test.YtbifignggnfodaaWLast
import Derived.Test.YtbifignggnfodaaWTab
import Derived.Test.YtbifignggnfodaaWFour
import Derived.Test.YtbifignggnfodaaWQPut
import Derived.Test.YtbifignggnfodaaWApart
import Derived.Test.YtbifignggnfodaaWArr
import Derived.Test.YtbifignggnfodaaWZeros
import Derived.Test.YtbifignggnfodaaWFoot
import Derived.Test.YtbifignggnfodaaWKept
import Derived.Test.YtbifignggnfodaaWShare
import Derived.Test.YtbifignggnfodaaWN
import Derived.Test.YtbifignggnfodaaWFootNe
import Derived.Test.YtbifignggnfodaaWAt
import Derived.Test.YtbifignggnfodaaWEqStruct
import Derived.Test.YtbifignggnfodaaWRepsOne
import Derived.Test.YtbifignggnfodaaWInv
import Derived.Test.YtbifignggnfodaaWInvWords
import Derived.Test.YtbifignggnfodaaWGuard
import Derived.Test.YtbifignggnfodaaWNEv
import Derived.Test.YtbifignggnfodaaWMore
namespace Go.Proofs.Ytbifignggnfodaa.B
open Go.RowKit Go.Proofs.YtbifignggnfodaaW.PrintWords Go.Proofs.YtbifignggnfodaaW.PrintLast Go.Proofs.YtbifignggnfodaaW.PrintMore
attribute [local go_sem] max2_int min2_int max_two min_two max_three min_three max_four min_four   -- for this text's walks alone
set_option linter.unusedVariables false
set_option linter.unusedSimpArgs false



def errW : Option Int → Value
  | none => .nilIface
  | some c => .iface 0 (.int .i64 c)
theorem errW_none : errW none = .nilIface := rfl
theorem errW_some (c : Int) : errW (some c) = .iface 0 (.int .i64 c) := rfl

theorem info3 : (Try.prog.info? 3).map (fun i => (i.zero, i.size, i.bytes)) = some (some (.int .i64 0), 1, 8) := by kernel_rfl
theorem info5 : (Try.prog.info? 5).map (fun i => (i.zero, i.size, i.bytes)) = some (some (.int .u8 0), 1, 1) := by kernel_rfl
-- the values' own types

end Go.Proofs.Ytbifignggnfodaa.B
