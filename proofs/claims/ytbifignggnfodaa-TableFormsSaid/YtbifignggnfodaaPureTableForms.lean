import Derived.Test.YtbifignggnfodaaTabLT
import Derived.Test.YtbifignggnfodaaT6
import Derived.Test.YtbifignggnfodaaBits
namespace Go.Proofs.Ytbifignggnfodaa.Pure
set_option linter.unusedVariables false
set_option linter.unusedSimpArgs false
open Go Go.RowKit Go.Proofs.Ytbifignggnfodaa.T Go.Proofs.YtbifignggnfodaaW.PrintWords Go.Proofs.YtbifignggnfodaaW.PrintLast Go.Proofs.YtbifignggnfodaaW.PrintMore
theorem TableForms : portagelaw6_TableForms.Pure := by
  intro x _
  refine ⟨100, ?_⟩
  have e : Go.bits .and .i64 x 1023 = x % 1024 := Bits.and_10 x
  obtain ⟨d, hd, d1, d2⟩ : ∃ d : Int, wrap64 (1 + Go.bits .and .i64 x 1023) = d ∧ 1 ≤ d ∧ d ≤ 1024 := ⟨1 + x % 1024, by rw [e, w64 (by omega) (by omega)], by omega, by omega⟩
  unfold portagelaw6_TableForms.f
  rw [awake_true (by decide), Option.bind_some, if_pos rfl, hd, w64 (by omega) (by omega), w64 (by omega) (by omega), w64 (by omega) (by omega), w64 (by omega) (by omega), w64 (by omega) (by omega), w64 (by omega) (by omega), w64 (by omega) (by omega), w64 (by omega) (by omega), len_no (by omega), Option.bind_some, len_no (by omega), Option.bind_some, lenOf_no (by omega), Option.bind_some, lenOf_no (by omega), Option.bind_some, dist_no (by omega), Option.bind_some, dist_no (by omega), Option.bind_some, distOf_no (by omega), Option.bind_some, distOf_no (by omega), Option.bind_some]
  rfl
end Go.Proofs.Ytbifignggnfodaa.Pure
