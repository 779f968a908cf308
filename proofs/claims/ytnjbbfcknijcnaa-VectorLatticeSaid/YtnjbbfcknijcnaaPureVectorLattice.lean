/- The law VectorLattice over the printed functions: a join is the least vector above both, a step is above; no conditions. -/
import Derived.Test.YtnjbbfcknijcnaaVecAV
import Derived.Test.YtnjbbfcknijcnaaV6
namespace Go.Proofs.Ytnjbbfcknijcnaa.Pure
set_option linter.unusedVariables false
set_option linter.unusedSimpArgs false
open Go.RowKit Go.Proofs.Ytnjbbfcknijcnaa.V Go.Proofs.YtnjbbfcknijcnaaW.PrintWords Go.Proofs.YtnjbbfcknijcnaaW.PrintLast Go.Proofs.YtnjbbfcknijcnaaW.PrintMore
open Go.Proofs.Ytnjbbfcknijcnaa
theorem mx_comm (a b : Int) : mx a b = mx b a := by unfold mx; split <;> split <;> omega
theorem mx_assoc (a b c : Int) : mx (mx a b) c = mx a (mx b c) := by unfold mx; repeat' split <;> first | rfl | omega
theorem mx_self (a : Int) : mx a a = a := by unfold mx; split <;> rfl
theorem mx_bd {a b : Int} (ha : 0 ≤ a ∧ a ≤ 1048576) (hb : 0 ≤ b ∧ b ≤ 1048576) : 0 ≤ mx a b ∧ mx a b ≤ 1048576 := by unfold mx; split <;> omega
theorem join_ok {x y : List Int} (hx : vok x = true) (hy : vok y = true) : vok (join x y) = true := by
  obtain ⟨a, b, c, d, rfl, ha, hb, hc, hd⟩ := four_of hx
  obtain ⟨e, f, g, h, rfl, he, hf, hg, hh⟩ := four_of hy
  exact vok_four (mx_bd ha he) (mx_bd hb hf) (mx_bd hc hg) (mx_bd hd hh)
theorem join_comm {x y : List Int} (hx : vok x = true) (hy : vok y = true) : join x y = join y x := by
  obtain ⟨a, b, c, d, rfl, ha, hb, hc, hd⟩ := four_of hx
  obtain ⟨e, f, g, h, rfl, he, hf, hg, hh⟩ := four_of hy
  simp only [join, mx_comm]
theorem join_assoc {x y z : List Int} (hx : vok x = true) (hy : vok y = true) (hz : vok z = true) : join (join x y) z = join x (join y z) := by
  obtain ⟨a, b, c, d, rfl, ha, hb, hc, hd⟩ := four_of hx
  obtain ⟨e, f, g, h, rfl, he, hf, hg, hh⟩ := four_of hy
  obtain ⟨i, j, k, l, rfl, hi, hj, hk, hl⟩ := four_of hz
  simp only [join, mx_assoc]
theorem join_self {x : List Int} (hx : vok x = true) : join x x = x := by
  obtain ⟨a, b, c, d, rfl, ha, hb, hc, hd⟩ := four_of hx
  simp only [join, mx_self]
theorem order_join {x y : List Int} (hx : vok x = true) (hy : vok y = true) : order (join x y) x = 0 ∨ order (join x y) x = 2 := by
  obtain ⟨a, b, c, d, rfl, ha, hb, hc, hd⟩ := four_of hx
  obtain ⟨e, f, g, h, rfl, he, hf, hg, hh⟩ := four_of hy
  have hm : ∀ a b : Int, decide (mx a b < a) = false := fun a b => decide_eq_false (by unfold mx; split <;> omega)
  unfold order
  simp only [join, lessAt, hm, Bool.or_false, Bool.false_or]
  unfold ordOf
  cases moreAt [mx a e, mx b f, mx c g, mx d h] [a, b, c, d] <;> simp
theorem join_eq {x y : List Int} (hx : vok x = true) (hy : vok y = true) : (decide (order x y = 0) || decide (order x y = 1)) = decide (join x y = y) := by
  obtain ⟨a, b, c, d, rfl, ha, hb, hc, hd⟩ := four_of hx
  obtain ⟨e, f, g, h, rfl, he, hf, hg, hh⟩ := four_of hy
  have hm : ∀ a b : Int, (mx a b = b ↔ ¬ a > b) := fun a b => by unfold mx; split <;> omega
  have h1 : (decide (order [a, b, c, d] [e, f, g, h] = 0) || decide (order [a, b, c, d] [e, f, g, h] = 1)) = !(moreAt [a, b, c, d] [e, f, g, h]) := by
    unfold order ordOf
    cases lessAt [a, b, c, d] [e, f, g, h] <;> cases moreAt [a, b, c, d] [e, f, g, h] <;> rfl
  rw [h1, Bool.eq_iff_iff]
  simp only [join, moreAt, List.cons.injEq, and_true, hm, decide_eq_true_eq, Bool.not_eq_true', Bool.or_eq_false_iff, decide_eq_false_iff_not]
theorem order_step {x : List Int} (hx : vok x = true) (hs : ∀ i : Nat, i < 4 → rd x (i : Int) ≤ 65535) (n : Nat) (hn : n < 4) : vok (x.set n (rd x (n : Int) + 1)) = true ∧ order (x.set n (rd x (n : Int) + 1)) x = 2 := by
  obtain ⟨a, b, c, d, rfl, ha, hb, hc, hd⟩ := four_of hx
  have h0 : a ≤ 65535 := hs 0 (by omega)
  have h1 : b ≤ 65535 := hs 1 (by omega)
  have h2 : c ≤ 65535 := hs 2 (by omega)
  have h3 : d ≤ 65535 := hs 3 (by omega)
  have hlt : ∀ a : Int, decide (a < a) = false := fun a => decide_eq_false (by omega)
  have hgt : ∀ a : Int, decide (a > a) = false := fun a => decide_eq_false (by omega)
  have hl1 : ∀ a : Int, decide (a + 1 < a) = false := fun a => decide_eq_false (by omega)
  have hg1 : ∀ a : Int, decide (a + 1 > a) = true := fun a => decide_eq_true (by omega)
  match n, hn with
  | 0, _ => exact ⟨vok_four (a := a + 1) (by omega) hb hc hd, by simp [order, ordOf, lessAt, moreAt, rd, hlt, hgt, hl1, hg1]⟩
  | 1, _ => exact ⟨vok_four (b := b + 1) ha (by omega) hc hd, by simp [order, ordOf, lessAt, moreAt, rd, hlt, hgt, hl1, hg1]⟩
  | 2, _ => exact ⟨vok_four (c := c + 1) ha hb (by omega) hd, by simp [order, ordOf, lessAt, moreAt, rd, hlt, hgt, hl1, hg1]⟩
  | 3, _ => exact ⟨vok_four (d := d + 1) ha hb hc (by omega), by simp [order, ordOf, lessAt, moreAt, rd, hlt, hgt, hl1, hg1]⟩
theorem fours_le (l : List Int) (i : Nat) (hi : i < 4) : rd (fours l) (i : Int) ≤ 65535 := by
  match i, hi with
  | 0, _ => exact (cnt_le l 0).2
  | 1, _ => exact (cnt_le l 1).2
  | 2, _ => exact (cnt_le l 2).2
  | 3, _ => exact (cnt_le l 3).2
theorem len_ok {x : List Int} (hx : vok x = true) : x.length = 4 := by
  obtain ⟨a, b, c, d, rfl, _⟩ := four_of hx
  rfl
theorem VectorLattice : portagelaw11_VectorLattice.Pure := by
  intro l0 l1 l2 node _ _ _ _ _ _ _ _ _ _
  refine ⟨30, ?_⟩
  have hx := fours_ok l0
  have hy := fours_ok l1
  have hz := fours_ok l2
  have hxl := fours_le l0
  unfold portagelaw11_VectorLattice.f
  rw [awake_true (by omega), four_k l0 (by omega), four_k l1 (by omega), four_k l2 (by omega)]
  simp only [Option.bind_some, if_true]
  generalize fours l0 = x at hx hxl ⊢
  generalize fours l1 = y at hy ⊢
  generalize fours l2 = z at hz ⊢
  have hxy := join_ok hx hy
  have hyz := join_ok hy hz
  obtain ⟨n, hn, en⟩ : ∃ n : Nat, n < 4 ∧ Go.bits .and .i64 node 3 = (n : Int) := ⟨(node % 4).toNat, by omega, by rw [Bits.and_2]; omega⟩
  obtain ⟨hs, hr⟩ := order_step hx hxl n hn
  have hne : ¬ rd x (n : Int) = 1048576 := by have := hxl n hn; omega
  rw [join_k x y hx hy (by omega)]
  simp only [Option.bind_some]
  rw [join_k y x hy hx (by omega)]
  simp only [Option.bind_some]
  rw [join_k y z hy hz (by omega)]
  simp only [Option.bind_some]
  rw [join_k _ z hxy hz (by omega)]
  simp only [Option.bind_some]
  rw [join_k x _ hx hyz (by omega)]
  simp only [Option.bind_some]
  rw [join_k x x hx hx (by omega)]
  simp only [Option.bind_some]
  rw [order_k _ x hxy hx (by omega)]
  simp only [Option.bind_some]
  rw [en, step_k x n hx hn (by omega), if_neg hne]
  simp only [Option.bind_some]
  rw [order_k _ x hs hx (by omega)]
  simp only [Option.bind_some]
  rw [order_k x y hx hy (by omega)]
  simp only [Option.bind_some, num_k, if_true]
  have e1 : ∀ u v : List Int, vok u = true → portagelaw0_SameInts.f 30 u v = some (decide (u = v)) := fun u v hu => same_k u v (by have := len_ok hu; omega) (by have := len_ok hu; omega)
  rw [e1 _ _ hxy, decide_eq_true (join_comm hx hy)]
  simp only [Option.bind_some, if_true]
  rw [e1 _ _ (join_ok hxy hz), decide_eq_true (join_assoc hx hy hz)]
  simp only [Option.bind_some, if_true]
  rw [e1 _ _ (join_ok hx hx), decide_eq_true (join_self hx)]
  simp only [Option.bind_some, if_true]
  rw [hr]
  have hj := join_eq hx hy
  rw [e1 _ _ hxy]
  simp only [Option.bind_some, if_true]
  have key : (if order x y = 0 then some (true == decide (join x y = y)) else some ((order x y == 1) == decide (join x y = y))) = some true := by
    rw [← hj]
    by_cases h0 : order x y = 0
    · rw [if_pos h0]; simp [h0]
    · rw [if_neg h0]
      by_cases h1 : order x y = 1 <;> simp [h0, h1]
  rcases order_join hx hy with h | h
  · rw [if_pos h]; exact key
  · rw [if_neg (by omega), if_pos h]; exact key
end Go.Proofs.Ytnjbbfcknijcnaa.Pure
