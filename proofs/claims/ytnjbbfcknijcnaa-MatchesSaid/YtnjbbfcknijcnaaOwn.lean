/- Small lemmas of this session on rows that are read or owned, over the printed words; no program in sight. -/
import Derived.Test.YtnjbbfcknijcnaaWMore
import Derived.Test.YtnjbbfcknijcnaaWKept
import Derived.Test.YtnjbbfcknijcnaaWN
import Derived.Lib.SliceRun
namespace Go.Proofs.YtnjbbfcknijcnaaW.Own
open Go.RowKit Go.Proofs.YtnjbbfcknijcnaaW.PrintWords Go.Proofs.YtnjbbfcknijcnaaW.PrintLast Go.Proofs.YtnjbbfcknijcnaaW.PrintMore
/-- Nothing is read at nil. -/
theorem C_none {α : Type} {d : Kd α} {w : World} {xs : List α} (h : Kd.C d w none xs.length xs) : xs = [] := by
  cases xs with
  | nil => rfl
  | cons x xs =>
    obtain ⟨ad, e, _⟩ := h.2.2 (by simp)
    cases e
/-- A slice cut longer than it is, within its capacity. -/
theorem up_to {P : Program} (t e : TypeId) (kh : IntKind) {i : TypeInfo} (ht : P.underlying t = some (.slice e)) (hi : P.info? e = some i) (A : Option Addr) (n m c : Nat) (j : Int) (h0 : 0 ≤ j) (hm : j ≤ m) (hc : m ≤ c) :
    ∀ W : World, (Instr.slice t (.slice A n c) none (some (.int kh j)) none).run P W = .ok (.slice A j.toNat c) W := by
  intro W
  have hel : P.elem t = e := by simp [Program.elem, ht]
  have hu : P.underlying t = some (.slice (P.elem t)) := by rw [hel]; exact ht
  have ha : (A.map fun x => x.add 0) = A := by cases A <;> simp [Addr.add]
  rw [run_slice_h W t A n c hu kh j h0 (by omega), hel]
  simp [sizeOf, typeInfo, hi, sliced, Result.andThen, ha]
end Go.Proofs.YtnjbbfcknijcnaaW.Own
