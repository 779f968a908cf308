import Derived.Test.YtbifignggnfodaaLimLLM
import Derived.Test.YtbifignggnfodaaLimALM
import Derived.Test.YtbifignggnfodaaLM9
namespace Go.Proofs.Ytbifignggnfodaa.Pure
set_option linter.unusedVariables false
set_option linter.unusedSimpArgs false
open Go.RowKit Go.Proofs.Ytbifignggnfodaa.LM Go.Proofs.YtbifignggnfodaaW.PrintWords Go.Proofs.YtbifignggnfodaaW.PrintLast Go.Proofs.YtbifignggnfodaaW.PrintMore
namespace LPo
theorem u64_tmod (x : Int) (m : Nat) (hm : 0 < m) : ∃ i : Nat, i < m ∧ Int.tmod (IntKind.u64.wrap x) (m : Int) = (i : Int) := by
  have h : 0 ≤ IntKind.u64.wrap x := by
    rw [IntKind.wrap_u64]
    omega
  obtain ⟨n, hn⟩ : ∃ n : Nat, IntKind.u64.wrap x = (n : Int) := ⟨(IntKind.u64.wrap x).toNat, by omega⟩
  exact ⟨n % m, Nat.mod_lt _ hm, by rw [hn]; rfl⟩
/-- The bound's own number alone is read of the second argument. -/
theorem l0_mod (x1 y1 : Int) (h : Int.tmod (IntKind.u64.wrap x1) 12 = Int.tmod (IntKind.u64.wrap y1) 12) : ∀ K, (∀ x5 x6 x7, portagelaw4_LimitPowers.l0 K x1 x5 x6 x7 = portagelaw4_LimitPowers.l0 K y1 x5 x6 x7) ∧ (∀ x5 x6 x8 b, portagelaw4_LimitPowers.j1 K x1 x5 x6 x8 b = portagelaw4_LimitPowers.j1 K y1 x5 x6 x8 b) ∧ (∀ x5 x6 x8 x10, portagelaw4_LimitPowers.l1 K x1 x5 x6 x8 x10 = portagelaw4_LimitPowers.l1 K y1 x5 x6 x8 x10)
  | 0 => ⟨fun _ _ _ => rfl, fun _ _ _ _ => rfl, fun _ _ _ _ => rfl⟩
  | K + 1 => by
    obtain ⟨h1, h2, h3⟩ := l0_mod x1 y1 h K
    refine ⟨fun x5 x6 x7 => ?_, fun x5 x6 x8 b => ?_, fun x5 x6 x8 x10 => ?_⟩
    · rw [portagelaw4_LimitPowers.l0, portagelaw4_LimitPowers.l0]
      simp only [h1, h2]
    · rw [portagelaw4_LimitPowers.j1, portagelaw4_LimitPowers.j1]
      simp only [h3]
    · rw [portagelaw4_LimitPowers.l1, portagelaw4_LimitPowers.l1]
      simp only [h3, h]
theorem run : ∀ (i : Nat), i < 10 → ∀ (j : Nat), j < 12 → portagelaw4_LimitPowers.l0 100 (j : Int) (((i + 2 : Nat)) : Int) ([] : List Int) 0 = some true := by
  decide +kernel
end LPo
open LPo in
theorem LimitPowers : portagelaw4_LimitPowers.Pure := by
  intro a0 a1 _ _
  refine ⟨100, ?_⟩
  obtain ⟨i, hi, e⟩ := u64_tmod a0 10 (by decide)
  have e : Int.tmod (IntKind.u64.wrap a0) 10 = (i : Int) := e
  obtain ⟨j, hj, e'⟩ := u64_tmod a1 12 (by decide)
  have ei : wrap64 (i : Int) = (i : Int) := by unfold wrap64; omega
  have e1 : wrap64 (2 + (i : Int)) = ((i + 2 : Nat) : Int) := by unfold wrap64; omega
  have ej : Int.tmod (IntKind.u64.wrap a1) 12 = Int.tmod (IntKind.u64.wrap (j : Int)) 12 := by
    rw [show Int.tmod (IntKind.u64.wrap a1) 12 = (j : Int) from e']
    have : IntKind.u64.wrap (j : Int) = (j : Int) := by rw [IntKind.wrap_u64]; omega
    rw [this]
    have h12 : ((j : Int)).tmod 12 = ((j % 12 : Nat) : Int) := rfl
    rw [h12, Nat.mod_eq_of_lt hj]
  unfold portagelaw4_LimitPowers.f
  rw [limAwake (by decide), Option.bind_some, if_pos rfl, e, ei, e1, (l0_mod a1 (j : Int) ej 100).1]
  exact run i hi j hj
end Go.Proofs.Ytbifignggnfodaa.Pure
