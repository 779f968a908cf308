import Derived.Test.YtbifignggnfodaaHuffLHU
import Derived.Test.YtbifignggnfodaaHuffWHU
import Derived.Test.YtbifignggnfodaaHU5
namespace Go.Proofs.Ytbifignggnfodaa.Pure
set_option linter.unusedVariables false
set_option linter.unusedSimpArgs false
open Go.RowKit Go.Proofs.Ytbifignggnfodaa.HU Go.Proofs.YtbifignggnfodaaW.PrintWords Go.Proofs.YtbifignggnfodaaW.PrintLast Go.Proofs.YtbifignggnfodaaW.PrintMore
namespace HE
theorem run (i : Nat) (h : i < 8) : (portagelaw3_HuffEven.l0 600 ((i : Int) + 1) (List.replicate (2 ^ (i + 1)) 0) 0) = some true := by
  match i, h with
  | 0, _ => decide +kernel
  | 1, _ => decide +kernel
  | 2, _ => decide +kernel
  | 3, _ => decide +kernel
  | 4, _ => decide +kernel
  | 5, _ => decide +kernel
  | 6, _ => decide +kernel
  | 7, _ => decide +kernel
end HE
open HE in
theorem HuffEven : portagelaw3_HuffEven.Pure := by
  intro a0 _
  refine ⟨600, ?_⟩
  obtain ⟨i, hi, e⟩ := u64_tmod a0 8 (by decide)
  have e : Int.tmod (IntKind.u64.wrap a0) 8 = (i : Int) := e
  have ei : wrap64 (i : Int) = (i : Int) := w64' (by omega) (by omega)
  have e1 : wrap64 (1 + (i : Int)) = (i : Int) + 1 := by unfold wrap64; omega
  have e2 : ∀ j : Nat, j < 8 → shl .i64 1 ((j : Int) + 1) = ((2 ^ (j + 1) : Nat) : Int) ∧ 2 ^ (j + 1) ≤ 35184372088832 := by decide +kernel
  obtain ⟨e3, e4⟩ := e2 i hi
  unfold portagelaw3_HuffEven.f
  rw [huffAwake (by decide), Option.bind_some, if_pos rfl, e, ei, e1, e3, if_pos (by omega), if_pos (Int.natCast_nonneg _), Int.toNat_natCast, if_pos e4]
  exact run i hi
end Go.Proofs.Ytbifignggnfodaa.Pure
