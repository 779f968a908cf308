/- What limit.Lengths tells, in the laws' words. -/
import Derived.Test.YtbifignggnfodaaLM4
import Derived.Test.YtbifignggnfodaaHeapQ
namespace Go.Proofs.Ytbifignggnfodaa.LM
set_option linter.unusedVariables false
set_option linter.unusedSimpArgs false
open Go.RowKit Go.Proofs.YtbifignggnfodaaW.PrintWords Go.Proofs.YtbifignggnfodaaW.PrintLast Go.Proofs.YtbifignggnfodaaW.PrintMore
theorem lim_no (l : List Int) (m : Int) (h : limitMay l m = false) : limit_Lengths.f l m = some ([], 400) := by
  unfold limit_Lengths.f
  rw [if_neg (by rw [h]; decide)]
theorem lim_yes (l : List Int) (m : Int) (h : limitMay l m = true) : limit_Lengths.f l m = some (HeapM.lengths l m, 0) := by
  unfold limit_Lengths.f
  rw [if_pos h]
theorem lim_may {l : List Int} {m : Int} (h2 : 2 ≤ l.length) (h288 : l.length ≤ 288) (hc : ∀ c ∈ l, 0 ≤ c ∧ c ≤ 2147483647) (h1 : 1 ≤ m) (h15 : m ≤ 15) (hu : HeapM.used l ≤ 2 ^ m.toNat) : limitMay l m = true :=
  (limitMay_is l m).2 ⟨h2, h288, List.all_eq_true.2 fun x hx => by
    have := hc x hx
    unfold limitCount
    rw [decide_eq_true this.1, decide_eq_true this.2]
    rfl, h1, h15, hu⟩
theorem lim_good {l : List Int} {m : Int} (h : limitMay l m = true) : HeapM.Good l m (HeapM.lengths l m) := by
  obtain ⟨h1, h2, h3, h4, h5, h6⟩ := (limitMay_is l m).1 h
  refine HeapM.good l m h1 h2 (fun c hc => ?_) h4 h5 h6
  have := List.all_eq_true.1 h3 c hc
  unfold limitCount at this
  rw [Bool.and_eq_true, decide_eq_true_eq, decide_eq_true_eq] at this
  exact this
theorem lim_rd (xs : List Int) (i : Nat) : rd xs (i : Int) = xs.getD i 0 := by unfold rd; rw [Int.toNat_natCast]
theorem lim_drop (xs : List Int) (i : Nat) (h : i < xs.length) : xs.drop i = rd xs (i : Int) :: xs.drop (i + 1) := HeapA.drop_rd xs i h
theorem lim_used (x : Int) (xs : List Int) : HeapM.used (x :: xs) = (if 0 < x then 1 else 0) + HeapM.used xs := by
  unfold HeapM.used
  by_cases h : 0 < x
  · rw [if_pos h, List.filter_cons_of_pos (by simpa using h), List.length_cons]; omega
  · rw [if_neg h, List.filter_cons_of_neg (by simpa using h)]; omega
theorem lim_shl (x : Int) (h0 : 1 ≤ x) (h1 : x ≤ 15) : 0 ≤ wrap64 (15 - x) ∧ shl .i64 1 (wrap64 (15 - x)) = ((2 ^ (15 - x.toNat) : Nat) : Int) := by
  have : x = 1 ∨ x = 2 ∨ x = 3 ∨ x = 4 ∨ x = 5 ∨ x = 6 ∨ x = 7 ∨ x = 8 ∨ x = 9 ∨ x = 10 ∨ x = 11 ∨ x = 12 ∨ x = 13 ∨ x = 14 ∨ x = 15 := by omega
  rcases this with h | h | h | h | h | h | h | h | h | h | h | h | h | h | h <;> subst h <;> decide +kernel
end Go.Proofs.Ytbifignggnfodaa.LM
