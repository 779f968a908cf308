/- Chapter 10: what every program answers that is one. -/
import Derived.Test.YtdccnjinehcenaaDoorNameLN
import Derived.Test.YtdccnjinehcenaaDoorN3
namespace Go.Proofs.YtdccnjinehcenaaDoor.N
set_option linter.unusedVariables false
set_option linter.unusedSimpArgs false
open Go.RowKit Go.Proofs.YtdccnjinehcenaaDoorW.PrintWords Go.Proofs.YtdccnjinehcenaaDoorW.PrintLast Go.Proofs.YtdccnjinehcenaaDoorW.PrintMore
theorem name_awake : portagelaw10_awake.f = some true := by
  unfold portagelaw10_awake.f portagelaw0_Num.f
  rw [Option.bind_some, if_pos rfl, may_lit [97, 45, 49, 95, 46, 122] (by decide), may_lit [] (by decide), may_lit [46, 46] (by decide), may_lit [65] (by decide), may_lit [110, 105, 110, 101, 99, 104, 97, 114, 115] (by decide), may_lit [46, 46, 46] (by decide)]
  decide +kernel
end Go.Proofs.YtdccnjinehcenaaDoor.N
