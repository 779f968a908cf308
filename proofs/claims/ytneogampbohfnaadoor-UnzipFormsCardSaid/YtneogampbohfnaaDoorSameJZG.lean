/- Two slices of whole numbers, one by one. -/
import Derived.Test.YtneogampbohfnaaDoorZG8
import Derived.Test.YtneogampbohfnaaDoorZipW
namespace Go.Proofs.YtneogampbohfnaaDoor.ZG
set_option linter.unusedVariables false
set_option linter.unusedSimpArgs false
open Go.RowKit Go.Proofs.YtneogampbohfnaaDoorW.PrintWords Go.Proofs.YtneogampbohfnaaDoorW.PrintLast Go.Proofs.YtneogampbohfnaaDoorW.PrintMore
open Go.Proofs.YtneogampbohfnaaDoor.ZB (rd_drop)
theorem same_l0 (x y : List Int) (hxy : x.length = y.length) (hl : x.length ≤ 4611686018427387904) : ∀ (d i : Nat), i + d = x.length → ∀ k, pl_SameInts.l0 (k + d + 1) x y (i : Int) = some (decide (x.drop i = y.drop i))
  | 0, i, hi, k => by
    simp only [pl_SameInts.l0]
    rw [if_neg (by omega), List.drop_eq_nil_of_le (show x.length ≤ i by omega), List.drop_eq_nil_of_le (show y.length ≤ i by omega)]
    simp
  | d + 1, i, hi, k => by
    have ih := same_l0 x y hxy hl d (i + 1) (by omega) k
    rw [show k + (d + 1) + 1 = (k + d + 1) + 1 from by omega]
    generalize k + d + 1 = K at ih ⊢
    simp only [pl_SameInts.l0]
    rw [if_pos (by omega), if_pos (by omega), if_pos (by omega), rd_drop x i (by omega), rd_drop y i (by omega), show wrap64 ((i : Int) + 1) = ((i + 1 : Nat) : Int) from by unfold wrap64; omega, ih]
    by_cases h : rd x (i : Int) = rd y (i : Int)
    · rw [if_pos h, h]
      simp
    · rw [if_neg h]
      simp [h]
theorem same_k (x y : List Int) (hl : x.length ≤ 4611686018427387904) {k : Nat} (hk : x.length + 1 ≤ k) : pl_SameInts.f k x y = some (decide (x = y)) := by
  unfold pl_SameInts.f
  by_cases h : x.length = y.length
  · rw [if_pos (by omega)]
    obtain ⟨m, rfl⟩ : ∃ m, k = m + x.length + 1 := ⟨k - (x.length + 1), by omega⟩
    have := same_l0 x y h hl x.length 0 (by omega) m
    simpa using this
  · rw [if_neg (by omega)]
    have : x ≠ y := fun e => h (by rw [e])
    simp [this]
end Go.Proofs.YtneogampbohfnaaDoor.ZG
