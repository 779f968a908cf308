/- The law VectorOrders over the printed functions: of two vectors one is told the other way round the other way round, what is below what is below is below; no conditions. -/
import Derived.Test.YtnjbbfcknijcnaaVecAO
import Derived.Test.YtnjbbfcknijcnaaO6
namespace Go.Proofs.Ytnjbbfcknijcnaa.Pure
set_option linter.unusedVariables false
set_option linter.unusedSimpArgs false
open Go.RowKit Go.Proofs.Ytnjbbfcknijcnaa.O Go.Proofs.YtnjbbfcknijcnaaW.PrintWords Go.Proofs.YtnjbbfcknijcnaaW.PrintLast Go.Proofs.YtnjbbfcknijcnaaW.PrintMore
open Go.Proofs.Ytnjbbfcknijcnaa
theorem less_rev {x y : List Int} (hx : vok x = true) (hy : vok y = true) : lessAt y x = moreAt x y ∧ moreAt y x = lessAt x y := by
  obtain ⟨a, b, c, d, rfl, ha, hb, hc, hd⟩ := four_of hx
  obtain ⟨e, f, g, h, rfl, he, hf, hg, hh⟩ := four_of hy
  exact ⟨rfl, rfl⟩
theorem same_iff {x y : List Int} (hx : vok x = true) (hy : vok y = true) : decide (x = y) = (!(lessAt x y) && !(moreAt x y)) := by
  obtain ⟨a, b, c, d, rfl, ha, hb, hc, hd⟩ := four_of hx
  obtain ⟨e, f, g, h, rfl, he, hf, hg, hh⟩ := four_of hy
  rw [Bool.eq_iff_iff]
  simp only [lessAt, moreAt, List.cons.injEq, and_true, decide_eq_true_eq, Bool.and_eq_true, Bool.not_eq_true', Bool.or_eq_false_iff, decide_eq_false_iff_not]
  omega
theorem below {x y z : List Int} (hx : vok x = true) (hy : vok y = true) (hz : vok z = true) (h1 : lessAt x y = true) (h2 : moreAt x y = false) (h3 : moreAt y z = false) : lessAt x z = true ∧ moreAt x z = false := by
  obtain ⟨a, b, c, d, rfl, ha, hb, hc, hd⟩ := four_of hx
  obtain ⟨e, f, g, h, rfl, he, hf, hg, hh⟩ := four_of hy
  obtain ⟨i, j, k, l, rfl, hi, hj, hk, hl⟩ := four_of hz
  simp only [lessAt, moreAt, Bool.or_eq_true, decide_eq_true_eq, Bool.or_eq_false_iff, decide_eq_false_iff_not, and_true, or_false, Bool.false_eq_true] at h1 h2 h3 ⊢
  omega
theorem len_ok {x : List Int} (hx : vok x = true) : x.length = 4 := by
  obtain ⟨a, b, c, d, rfl, _⟩ := four_of hx
  rfl
theorem VectorOrders : portagelaw11_VectorOrders.Pure := by
  intro l0 l1 l2 _ _ _ _ _ _ _ _ _
  refine ⟨30, ?_⟩
  have hx := fours_ok l0
  have hy := fours_ok l1
  have hz := fours_ok l2
  unfold portagelaw11_VectorOrders.f
  rw [awake_true (by omega), four_k l0 (by omega), four_k l1 (by omega), four_k l2 (by omega)]
  simp only [Option.bind_some, if_true]
  generalize fours l0 = x at hx ⊢
  generalize fours l1 = y at hy ⊢
  generalize fours l2 = z at hz ⊢
  rw [order_k x y hx hy (by omega), order_k y x hy hx (by omega), order_k y z hy hz (by omega), order_k x z hx hz (by omega)]
  simp only [Option.bind_some, num_k, if_true]
  obtain ⟨r1, r2⟩ := less_rev hx hy
  have hs := same_iff hx hy
  have hb := below hx hy hz
  have es : portagelaw0_SameInts.f 27 x y = some (!(lessAt x y) && !(moreAt x y)) := by
    rw [← hs]
    exact same_k x y (by have := len_ok hx; omega) (by have := len_ok hx; omega)
  simp only [portagelaw11_VectorOrders.j0, portagelaw11_VectorOrders.j1, portagelaw11_VectorOrders.j2, es, order, r1, r2, ordOf]
  rcases Bool.eq_false_or_eq_true (lessAt x y) with h1 | h1 <;> rcases Bool.eq_false_or_eq_true (moreAt x y) with h2 | h2 <;> simp only [h1, h2] at hb <;> rcases Bool.eq_false_or_eq_true (lessAt y z) with h3 | h3 <;> rcases Bool.eq_false_or_eq_true (moreAt y z) with h4 | h4 <;> simp [h4] at hb <;> simp [h1, h2, h3, h4, hb]
end Go.Proofs.Ytnjbbfcknijcnaa.Pure
