/- 'vector.May' over plain lists. -/
import Derived.Test.YtneogampbohfnaaDoorZG0
namespace Go.Proofs.YtneogampbohfnaaDoor.ZG
set_option linter.unusedVariables false
set_option linter.unusedSimpArgs false
open Go.RowKit Go.Proofs.YtneogampbohfnaaDoorW.PrintWords Go.Proofs.YtneogampbohfnaaDoorW.PrintLast Go.Proofs.YtneogampbohfnaaDoorW.PrintMore
def okc (n : Int) : Bool := decide (0 ≤ n) && decide (n ≤ 1048576)
/-- May a list be a vector? -/
def vok (l : List Int) : Bool := decide (l.length = 4) && l.all okc
theorem rd_drop (l : List Int) (i : Nat) (h : i < l.length) : l.drop i = rd l (i : Int) :: l.drop (i + 1) := by
  rw [List.drop_eq_getElem_cons h]
  unfold rd
  simp [List.getD_eq_getElem?_getD, List.getElem?_eq_getElem h]
theorem may1 (n : Int) : vector_May_1.f n = some (!(okc n)) := by
  unfold vector_May_1.f vector_Count.f okc
  by_cases h : n ≥ 0
  · rw [if_pos h]; simp [show 0 ≤ n from h]
  · rw [if_neg h]; simp [show ¬ 0 ≤ n from h]
theorem index_bad (l : List Int) (hl : l.length ≤ 4611686018427387904) : ∀ (d i : Nat), i + d = l.length → ∀ k, ∃ r, slices_IndexFunc_int_int_F110.l0 (k + d + 1) l (l.length : Int) (i : Int) = some r ∧ (decide (r ≥ 0) = !((l.drop i).all okc))
  | 0, i, hi, k => by
    refine ⟨-1, ?_, ?_⟩
    · simp only [slices_IndexFunc_int_int_F110.l0]
      rw [if_neg (by omega)]
    · rw [List.drop_eq_nil_of_le (by omega)]
      rfl
  | d + 1, i, hi, k => by
    rw [show k + (d + 1) + 1 = (k + d + 1) + 1 from by omega]
    simp only [slices_IndexFunc_int_int_F110.l0]
    rw [if_pos (by omega), if_pos (by omega), if_pos (by omega), may1]
    simp only [Option.bind_some]
    rw [rd_drop l i (by omega), List.all_cons]
    cases h : okc (rd l (i : Int))
    · exact ⟨(i : Int), by simp, by simp⟩
    · obtain ⟨r, h1, h2⟩ := index_bad l hl d (i + 1) (by omega) k
      refine ⟨r, ?_, by simpa using h2⟩
      simp only [Bool.not_true, Bool.false_eq_true, if_false]
      rw [show wrap64 ((i : Int) + 1) = ((i + 1 : Nat) : Int) from by unfold wrap64; omega]
      exact h1
theorem may_k (l : List Int) {k : Nat} (hk : 5 ≤ k) : vector_May.f k l = some (vok l) := by
  unfold vector_May.f vok
  by_cases h : l.length = 4
  · rw [if_pos (by omega)]
    obtain ⟨m, rfl⟩ : ∃ m, k = m + 4 + 1 := ⟨k - 5, by omega⟩
    obtain ⟨r, h1, h2⟩ := index_bad l (by omega) 4 0 (by omega) m
    unfold slices_ContainsFunc_int_int_F110.f slices_IndexFunc_int_int_F110.f
    rw [show ((0 : Nat) : Int) = 0 from rfl] at h1
    rw [h1]
    simp only [Option.bind_some, List.drop_zero] at h2 ⊢
    rw [h2]
    simp [h]
  · rw [if_neg (by omega)]
    simp [h]
/-- A vector's four counts. -/
theorem four_of {l : List Int} (h : vok l = true) : ∃ a b c d : Int, l = [a, b, c, d] ∧ (0 ≤ a ∧ a ≤ 1048576) ∧ (0 ≤ b ∧ b ≤ 1048576) ∧ (0 ≤ c ∧ c ≤ 1048576) ∧ (0 ≤ d ∧ d ≤ 1048576) := by
  unfold vok at h
  rw [Bool.and_eq_true, decide_eq_true_eq] at h
  obtain ⟨h4, ha⟩ := h
  match l, h4 with
  | [a, b, c, d], _ =>
    simp only [List.all_cons, List.all_nil, okc, Bool.and_eq_true, decide_eq_true_eq] at ha
    exact ⟨a, b, c, d, rfl, ha.1, ha.2.1, ha.2.2.1, ha.2.2.2.1⟩
theorem vok_four {a b c d : Int} (ha : 0 ≤ a ∧ a ≤ 1048576) (hb : 0 ≤ b ∧ b ≤ 1048576) (hc : 0 ≤ c ∧ c ≤ 1048576) (hd : 0 ≤ d ∧ d ≤ 1048576) : vok [a, b, c, d] = true := by
  unfold vok
  simp only [List.all_cons, List.all_nil, okc, Bool.and_eq_true, decide_eq_true_eq]
  exact ⟨rfl, ha, hb, hc, hd, trivial⟩
end Go.Proofs.YtneogampbohfnaaDoor.ZG
