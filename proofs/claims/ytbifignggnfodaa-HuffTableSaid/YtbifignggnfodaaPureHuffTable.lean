import Derived.Test.YtbifignggnfodaaHuffLHU
import Derived.Test.YtbifignggnfodaaHuffWHU
import Derived.Test.YtbifignggnfodaaHU6
namespace Go.Proofs.Ytbifignggnfodaa.Pure
set_option linter.unusedVariables false
set_option linter.unusedSimpArgs false
open Go.RowKit Go.Proofs.Ytbifignggnfodaa.HU Go.Proofs.YtbifignggnfodaaW.PrintWords Go.Proofs.YtbifignggnfodaaW.PrintLast Go.Proofs.YtbifignggnfodaaW.PrintMore
theorem HuffTable : portagelaw3_HuffTable.Pure := by
  intro a0 _
  refine ⟨60, ?_⟩
  obtain ⟨i, hi, e⟩ := u64_tmod a0 6 (by decide)
  have e : Int.tmod (IntKind.u64.wrap a0) 6 = (i : Int) := e
  have ei : wrap64 (i : Int) = (i : Int) := w64' (by omega) (by omega)
  unfold portagelaw3_HuffTable.f
  rw [huffAwake (by decide), Option.bind_some, if_pos rfl, e, ei]
  clear e ei
  match i, hi with
  | 0, _ => decide +kernel
  | 1, _ => decide +kernel
  | 2, _ => decide +kernel
  | 3, _ => decide +kernel
  | 4, _ => decide +kernel
  | 5, _ => decide +kernel
end Go.Proofs.Ytbifignggnfodaa.Pure
