/- What every program answers that is one. -/
import Derived.Test.YtbifignggnfodaaLimLLM
import Derived.Test.YtbifignggnfodaaLM5
namespace Go.Proofs.Ytbifignggnfodaa.LM
set_option linter.unusedVariables false
set_option linter.unusedSimpArgs false
open Go.RowKit Go.Proofs.YtbifignggnfodaaW.PrintWords Go.Proofs.YtbifignggnfodaaW.PrintLast Go.Proofs.YtbifignggnfodaaW.PrintMore
theorem limAwake {k : Nat} (hk : 20 ≤ k) : portagelaw4_awake.f k = some true := at_rounds portagelaw4_awake.mono hk (by decide +kernel)
end Go.Proofs.Ytbifignggnfodaa.LM
