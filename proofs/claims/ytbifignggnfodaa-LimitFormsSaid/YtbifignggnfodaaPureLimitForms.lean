import Derived.Test.YtbifignggnfodaaLimLLM
import Derived.Test.YtbifignggnfodaaLimALM
import Derived.Test.YtbifignggnfodaaLM7
import Derived.Test.YtbifignggnfodaaBits
namespace Go.Proofs.Ytbifignggnfodaa.Pure
set_option linter.unusedVariables false
set_option linter.unusedSimpArgs false
open Go.RowKit Go.Proofs.Ytbifignggnfodaa.LM Go.Proofs.YtbifignggnfodaaW.PrintWords Go.Proofs.YtbifignggnfodaaW.PrintLast Go.Proofs.YtbifignggnfodaaW.PrintMore
namespace LFo
theorem u64_tmod (x : Int) (m : Nat) (hm : 0 < m) : ∃ i : Nat, i < m ∧ Int.tmod (IntKind.u64.wrap x) (m : Int) = (i : Int) := by
  have h : 0 ≤ IntKind.u64.wrap x := by
    rw [IntKind.wrap_u64]
    omega
  obtain ⟨n, hn⟩ : ∃ n : Nat, IntKind.u64.wrap x = (n : Int) := ⟨(IntKind.u64.wrap x).toNat, by omega⟩
  exact ⟨n % m, Nat.mod_lt _ hm, by rw [hn]; rfl⟩
theorem no (l : List Int) (m : Int) (h : ¬ (2 ≤ l.length ∧ l.length ≤ 288 ∧ l.all limitCount = true ∧ 1 ≤ m ∧ m ≤ 15 ∧ HeapM.used l ≤ 2 ^ m.toNat)) : limit_Lengths.f l m = some ([], 400) := by
  refine lim_no l m ?_
  cases hm : limitMay l m with
  | false => rfl
  | true => exact absurd ((limitMay_is l m).1 hm) h
theorem neg1 (x : Int) (h : ¬ (0 ≤ x ∧ x ≤ 2147483647)) : ([1, x] : List Int).all limitCount = true → False := fun h1 => by
  have := List.all_eq_true.1 h1 x (by simp)
  unfold limitCount at this
  rw [Bool.and_eq_true, decide_eq_true_eq, decide_eq_true_eq] at this
  exact h this
end LFo
open LFo in
theorem LimitForms : portagelaw4_LimitForms.Pure := by
  intro a0 a1 _ _
  refine ⟨20, ?_⟩
  obtain ⟨i, hi, e⟩ := u64_tmod a0 8 (by decide)
  have e : Int.tmod (IntKind.u64.wrap a0) 8 = (i : Int) := e
  have ei : wrap64 (i : Int) = (i : Int) := by unfold wrap64; omega
  have hd := Bits.and_10 a1
  obtain ⟨r, hr⟩ : ∃ r, a1 % 1024 = r := ⟨_, rfl⟩
  have hr0 : 0 ≤ r := by omega
  have hr1 : r < 1024 := by omega
  rw [hr] at hd
  have e1 : wrap64 (1 + r) = 1 + r := by unfold wrap64; omega
  have e2 : wrap64 (288 + (1 + r)) = 289 + r := by unfold wrap64; omega
  have e3 : wrap64 (-(1 + r)) = -(1 + r) := by unfold wrap64; omega
  have e4 : wrap64 (2147483647 + (1 + r)) = 2147483648 + r := by unfold wrap64; omega
  have e5 : wrap64 (1 - (1 + r)) = -r := by unfold wrap64; omega
  have e6 : wrap64 (15 + (1 + r)) = 16 + r := by unfold wrap64; omega
  unfold portagelaw4_LimitForms.f
  rw [limAwake (by decide), Option.bind_some, if_pos rfl, hd, e1, e2, e3, e4, e5, e6, e, ei, if_pos (by omega), if_pos (by omega)]
  simp only [Option.bind_some]
  rw [if_pos (by omega)]
  have hl1 : ∀ (a b c d e f g h : List Int), (([a, b, c, d, e, f, g, h] : List (List Int)).length : Int) = 8 := fun _ _ _ _ _ _ _ _ => rfl
  have hl2 : ∀ (a b c d e f g h : Int), (([a, b, c, d, e, f, g, h] : List Int).length : Int) = 8 := fun _ _ _ _ _ _ _ _ => rfl
  rw [hl1, hl2, if_pos (by omega), if_pos (by omega)]
  have key : limit_Lengths.f (rd_L1 ([[], [1], List.replicate (289 + r).toNat 0, [1, -(1 + r)], [1, 2147483648 + r], [1, 1], [1, 1], [1, 1, 1, 1, 1]] : List (List Int)) (i : Int)) (rd ([5, 5, 5, 5, 5, -r, 16 + r, 2] : List Int) (i : Int)) = some ([], 400) := by
    match i, hi with
    | 0, _ => exact no [] 5 fun h => absurd h.1 (by decide)
    | 1, _ => exact no [1] 5 fun h => absurd h.1 (by decide)
    | 2, _ => exact no (List.replicate (289 + r).toNat 0) _ fun h => by have := h.2.1; rw [List.length_replicate] at this; omega
    | 3, _ => exact no [1, -(1 + r)] _ fun h => neg1 _ (by omega) h.2.2.1
    | 4, _ => exact no [1, 2147483648 + r] _ fun h => neg1 _ (by omega) h.2.2.1
    | 5, _ => exact no [1, 1] (-r) fun h => by have := h.2.2.2.1; omega
    | 6, _ => exact no [1, 1] (16 + r) fun h => by have := h.2.2.2.2.1; omega
    | 7, _ => exact no [1, 1, 1, 1, 1] 2 fun h => absurd h.2.2.2.2.2 (by decide)
  rw [key]
  rfl
end Go.Proofs.Ytbifignggnfodaa.Pure
