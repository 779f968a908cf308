/- awake answers true. -/
import Derived.Test.YtbifignggnfodaaHF4
namespace Go.Proofs.Ytbifignggnfodaa.HF
set_option linter.unusedVariables false
set_option linter.unusedSimpArgs false
open Go.RowKit Go.Proofs.YtbifignggnfodaaW.PrintWords Go.Proofs.YtbifignggnfodaaW.PrintLast Go.Proofs.YtbifignggnfodaaW.PrintMore
theorem huffAwake {k : Nat} (hk : 10 ≤ k) : portagelaw3_awake.f k = some true := at_rounds (g := fun k => portagelaw3_awake.f k) portagelaw3_awake.mono hk (by decide +kernel)
end Go.Proofs.Ytbifignggnfodaa.HF
