-- Written by a program of this session out of the translation (a changed copy of the kit's printer).
import Derived.Test.YtdccnjinehcenaaDoorProg
import Derived.Below
import Derived.Deep.Draws
import Derived.Deep.AppendLies
import Derived.Maps.AppendAt
import Derived.OwnWalk
import Derived.Laws.BytesArg
import Derived.Laws.MakeOwn
import Derived.Laws.OwnMore
import Derived.Deep.OwnRows
import Derived.Tactics
import Derived.Lib.ConvBytes
import Derived.Laws.Slices
import Derived.WalkKit
import Derived.KernelRfl
import Derived.RowKit3
import Derived.Deep.LoopGhost
import Derived.Deep.QuietTactic
import Derived.BigQuiet
import Derived.WideLaws
import Derived.Deep.DeepCutAuto
import Derived.Deep.CutBlock
import Derived.Deep.RegionHeld3
import Derived.Laws.Rows
import Derived.Lib.AppendStr
import Derived.ArgAppend
import Derived.Laws.IdiomCopy
import Derived.OrdersHeld
import Derived.Laws.BitsLemmas
import Derived.RowKit
import Derived.Test.YtdccnjinehcenaaDoorWWords
import Derived.Test.YtdccnjinehcenaaDoorWLast
import Derived.Test.YtdccnjinehcenaaDoorWTab
import Derived.Test.YtdccnjinehcenaaDoorWFour
import Derived.Test.YtdccnjinehcenaaDoorWQPut
import Derived.Test.YtdccnjinehcenaaDoorWApart
import Derived.Test.YtdccnjinehcenaaDoorWArr
import Derived.Test.YtdccnjinehcenaaDoorWZeros
import Derived.Test.YtdccnjinehcenaaDoorWFoot
import Derived.Test.YtdccnjinehcenaaDoorWKept
import Derived.Test.YtdccnjinehcenaaDoorWShare
import Derived.Test.YtdccnjinehcenaaDoorWN
import Derived.Test.YtdccnjinehcenaaDoorWFootNe
import Derived.Test.YtdccnjinehcenaaDoorWAt
import Derived.Test.YtdccnjinehcenaaDoorWEqStruct
import Derived.Test.YtdccnjinehcenaaDoorWRepsOne
import Derived.Test.YtdccnjinehcenaaDoorWInv
import Derived.Test.YtdccnjinehcenaaDoorWInvWords
import Derived.Test.YtdccnjinehcenaaDoorWGuard
import Derived.Test.YtdccnjinehcenaaDoorWNEv
import Derived.Test.YtdccnjinehcenaaDoorWMore
namespace Go.Proofs.YtdccnjinehcenaaDoor.N
open Go.RowKit Go.Proofs.YtdccnjinehcenaaDoorW.PrintWords Go.Proofs.YtdccnjinehcenaaDoorW.PrintLast Go.Proofs.YtdccnjinehcenaaDoorW.PrintMore
attribute [local go_sem] max2_int min2_int max_two min_two max_three min_three max_four min_four   -- for this text's walks alone
set_option linter.unusedVariables false
set_option linter.unusedSimpArgs false



def errW : Option Int → Value
  | none => .nilIface
  | some c => .iface 0 (.int .i64 c)
theorem errW_none : errW none = .nilIface := rfl
theorem errW_some (c : Int) : errW (some c) = .iface 0 (.int .i64 c) := rfl

theorem info5 : (Tryd.prog.info? 5).map (fun i => (i.zero, i.size, i.bytes)) = some (some (.int .u8 0), 1, 1) := by kernel_rfl
-- the values' own types

end Go.Proofs.YtdccnjinehcenaaDoor.N
