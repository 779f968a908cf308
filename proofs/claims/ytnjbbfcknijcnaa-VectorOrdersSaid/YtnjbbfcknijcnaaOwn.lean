/- Small lemmas of this session on rows that are read or owned, over the printed words; no program in sight. -/
import Derived.Test.YtnjbbfcknijcnaaWMore
import Derived.Test.YtnjbbfcknijcnaaWKept
import Derived.Test.YtnjbbfcknijcnaaWN
import Derived.Lib.SliceRun
namespace Go.Proofs.YtnjbbfcknijcnaaW.Own
open Go.RowKit Go.Proofs.YtnjbbfcknijcnaaW.PrintWords Go.Proofs.YtnjbbfcknijcnaaW.PrintLast Go.Proofs.YtnjbbfcknijcnaaW.PrintMore
/-- Nothing is read at nil. -/
theorem C_none {α : Type} {d : Kd α} {w : World} {xs : List α} (h : Kd.C d w none xs.length xs) : xs = [] := by
  cases xs with
  | nil => rfl
  | cons x xs =>
    obtain ⟨ad, e, _⟩ := h.2.2 (by simp)
    cases e
end Go.Proofs.YtnjbbfcknijcnaaW.Own
