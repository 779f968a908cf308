/- The printed functions of chapter 11 (vectors) over plain lists: what each answers for lists that may be vectors, and for others. -/
import Derived.Test.YtnjbbfcknijcnaaL1
import Derived.Test.YtnjbbfcknijcnaaL2
import Derived.Test.YtnjbbfcknijcnaaL5
import Derived.Test.YtnjbbfcknijcnaaL7
import Derived.Test.YtnjbbfcknijcnaaL8
namespace Go.Proofs.Ytnjbbfcknijcnaa.L
set_option linter.unusedVariables false
set_option linter.unusedSimpArgs false
open Go.RowKit Go.Proofs.YtnjbbfcknijcnaaW.PrintWords Go.Proofs.YtnjbbfcknijcnaaW.PrintLast Go.Proofs.YtnjbbfcknijcnaaW.PrintMore
def okc (n : Int) : Bool := decide (0 ≤ n) && decide (n ≤ 1048576)
/-- May a list be a vector? -/
def vok (l : List Int) : Bool := decide (l.length = 4) && l.all okc
theorem rd_drop (l : List Int) (i : Nat) (h : i < l.length) : l.drop i = rd l (i : Int) :: l.drop (i + 1) := by
  rw [List.drop_eq_getElem_cons h]
  unfold rd
  simp [List.getD_eq_getElem?_getD, List.getElem?_eq_getElem h]
theorem may1 (n : Int) : vector_May_1.f n = some (!(okc n)) := by
  unfold vector_May_1.f vector_Count.f okc
  by_cases h : n ≥ 0
  · rw [if_pos h]; simp [show 0 ≤ n from h]
  · rw [if_neg h]; simp [show ¬ 0 ≤ n from h]
theorem index_bad (l : List Int) (hl : l.length ≤ 4611686018427387904) : ∀ (d i : Nat), i + d = l.length → ∀ k, ∃ r, slices_IndexFunc_int_int_F73.l0 (k + d + 1) l (l.length : Int) (i : Int) = some r ∧ (decide (r ≥ 0) = !((l.drop i).all okc))
  | 0, i, hi, k => by
    refine ⟨-1, ?_, ?_⟩
    · simp only [slices_IndexFunc_int_int_F73.l0]
      rw [if_neg (by omega)]
    · rw [List.drop_eq_nil_of_le (by omega)]
      rfl
  | d + 1, i, hi, k => by
    rw [show k + (d + 1) + 1 = (k + d + 1) + 1 from by omega]
    simp only [slices_IndexFunc_int_int_F73.l0]
    rw [if_pos (by omega), if_pos (by omega), if_pos (by omega), may1]
    simp only [Option.bind_some]
    rw [rd_drop l i (by omega), List.all_cons]
    cases h : okc (rd l (i : Int))
    · exact ⟨(i : Int), by simp, by simp⟩
    · obtain ⟨r, h1, h2⟩ := index_bad l hl d (i + 1) (by omega) k
      refine ⟨r, ?_, by simpa using h2⟩
      simp only [Bool.not_true, Bool.false_eq_true, if_false]
      rw [show wrap64 ((i : Int) + 1) = ((i + 1 : Nat) : Int) from by unfold wrap64; omega]
      exact h1
theorem may_k (l : List Int) {k : Nat} (hk : 5 ≤ k) : vector_May.f k l = some (vok l) := by
  unfold vector_May.f vok
  by_cases h : l.length = 4
  · rw [if_pos (by omega)]
    obtain ⟨m, rfl⟩ : ∃ m, k = m + 4 + 1 := ⟨k - 5, by omega⟩
    obtain ⟨r, h1, h2⟩ := index_bad l (by omega) 4 0 (by omega) m
    unfold slices_ContainsFunc_int_int_F73.f slices_IndexFunc_int_int_F73.f
    rw [show ((0 : Nat) : Int) = 0 from rfl] at h1
    rw [h1]
    simp only [Option.bind_some, List.drop_zero] at h2 ⊢
    rw [h2]
    simp [h]
  · rw [if_neg (by omega)]
    simp [h]
/-- A vector's four counts. -/
theorem four_of {l : List Int} (h : vok l = true) : ∃ a b c d : Int, l = [a, b, c, d] ∧ (0 ≤ a ∧ a ≤ 1048576) ∧ (0 ≤ b ∧ b ≤ 1048576) ∧ (0 ≤ c ∧ c ≤ 1048576) ∧ (0 ≤ d ∧ d ≤ 1048576) := by
  unfold vok at h
  rw [Bool.and_eq_true, decide_eq_true_eq] at h
  obtain ⟨h4, ha⟩ := h
  match l, h4 with
  | [a, b, c, d], _ =>
    simp only [List.all_cons, List.all_nil, okc, Bool.and_eq_true, decide_eq_true_eq] at ha
    exact ⟨a, b, c, d, rfl, ha.1, ha.2.1, ha.2.2.1, ha.2.2.2.1⟩
theorem vok_four {a b c d : Int} (ha : 0 ≤ a ∧ a ≤ 1048576) (hb : 0 ≤ b ∧ b ≤ 1048576) (hc : 0 ≤ c ∧ c ≤ 1048576) (hd : 0 ≤ d ∧ d ≤ 1048576) : vok [a, b, c, d] = true := by
  unfold vok
  simp only [List.all_cons, List.all_nil, okc, Bool.and_eq_true, decide_eq_true_eq]
  exact ⟨rfl, ha, hb, hc, hd, trivial⟩
/-- How two vectors stand to each other. -/
def ordOf (less more : Bool) : Int := if less = true then (if more = true then 3 else 1) else if more = true then 2 else 0
def lessAt : List Int → List Int → Bool
  | a :: x, b :: y => decide (a < b) || lessAt x y
  | _, _ => false
def moreAt : List Int → List Int → Bool
  | a :: x, b :: y => decide (a > b) || moreAt x y
  | _, _ => false
def order (x y : List Int) : Int := ordOf (lessAt x y) (moreAt x y)
theorem order_end (k : Nat) (less more : Bool) : (if less = true then (vector_Order.j2 (k + 1) less more more) else (vector_Order.j2 (k + 1) less more false)) = some (ordOf less more, 0) := by
  unfold ordOf
  cases less <;> cases more <;> simp [vector_Order.j2]
theorem order_l0 (x y : List Int) (hx : x.length = 4) (hy : y.length = 4) : ∀ (d i : Nat) (less more : Bool), i + d = 4 → ∀ k, vector_Order.l0 (k + d + 2) x y less more (x.length : Int) (i : Int) = some (ordOf (less || lessAt (x.drop i) (y.drop i)) (more || moreAt (x.drop i) (y.drop i)), 0)
  | 0, i, less, more, hi, k => by
    rw [show k + 0 + 2 = (k + 1) + 1 from rfl]
    simp only [vector_Order.l0]
    rw [if_neg (by omega), order_end, List.drop_eq_nil_of_le (show x.length ≤ i by omega)]
    simp [lessAt, moreAt]
  | d + 1, i, less, more, hi, k => by
    have ih := fun a b => order_l0 x y hx hy d (i + 1) a b (by omega) k
    rw [show k + (d + 1) + 2 = (k + d + 2) + 1 from by omega]
    generalize k + d + 2 = K at ih ⊢
    simp only [vector_Order.l0]
    rw [rd_drop x i (by omega), rd_drop y i (by omega), show wrap64 ((i : Int) + 1) = ((i + 1 : Nat) : Int) from by unfold wrap64; omega]
    have q0 : 0 ≤ (i : Int) := by omega
    have q1 : (i : Int) < (x.length : Int) := by omega
    have q2 : (i : Int) < (y.length : Int) := by omega
    simp only [lessAt, moreAt, if_pos q0, if_pos q1, if_pos q2]
    cases less <;> cases more <;> simp only [if_true, Bool.false_eq_true, if_false, ih, Bool.false_or, Bool.true_or] <;> rfl
theorem order_k (x y : List Int) (hx : vok x = true) (hy : vok y = true) {k : Nat} (hk : 12 ≤ k) : vector_Order.f k x y = some (order x y, 0) := by
  have lx : x.length = 4 := by unfold vok at hx; simp only [Bool.and_eq_true, decide_eq_true_eq] at hx; exact hx.1
  have ly : y.length = 4 := by unfold vok at hy; simp only [Bool.and_eq_true, decide_eq_true_eq] at hy; exact hy.1
  unfold vector_Order.f
  rw [may_k x (by omega), may_k y (by omega), hx, hy]
  simp only [Option.bind_some, if_true]
  obtain ⟨m, rfl⟩ : ∃ m, k = (m + 4 + 2) + 1 := ⟨k - 7, by omega⟩
  simp only [vector_Order.j0, Bool.not_true, Bool.false_eq_true, if_false]
  have h := order_l0 x y lx ly 4 0 false false rfl m
  exact h
theorem order_bad (x y : List Int) (h : (vok x && vok y) = false) {k : Nat} (hk : 12 ≤ k) : vector_Order.f k x y = some (0, 1100) := by
  unfold vector_Order.f
  rw [may_k x (by omega), may_k y (by omega)]
  obtain ⟨m, rfl⟩ : ∃ m, k = m + 1 := ⟨k - 1, by omega⟩
  cases hx : vok x <;> cases hy : vok y <;> simp_all [vector_Order.j0]
/-- The greater counts. -/
def join : List Int → List Int → List Int
  | a :: x, b :: y => mx a b :: join x y
  | _, _ => []
theorem join_l0 (y : List Int) (hy : y.length = 4) : ∀ (d i : Nat) (p x : List Int), i + d = 4 → p.length = i → x.length = d → ∀ k, vector_Join.l0 (k + d + 1) (p ++ x) y (y.length : Int) (i : Int) = some (p ++ join x (y.drop i), 0)
  | 0, i, p, x, hi, hp, hx, k => by
    simp only [vector_Join.l0]
    rw [if_neg (by omega)]
    cases x with
    | nil => simp [join]
    | cons => simp at hx
  | d + 1, i, p, x, hi, hp, hx, k => by
    cases x with
    | nil => simp at hx
    | cons a x =>
      simp only [List.length_cons] at hx
      have ih := join_l0 y hy d (i + 1) (p ++ [mx a (rd y (i : Int))]) x (by omega) (by simp [hp]) (by omega) k
      have hr : rd (p ++ a :: x) (i : Int) = a := by
        unfold rd
        simp [List.getD_eq_getElem?_getD, ← hp]
      have hs : (p ++ a :: x).set (i : Int).toNat (mx a (rd y (i : Int))) = (p ++ [mx a (rd y (i : Int))]) ++ x := by
        simp [← hp]
      rw [show k + (d + 1) + 1 = (k + d + 1) + 1 from by omega]
      generalize k + d + 1 = K at ih ⊢
      simp only [vector_Join.l0]
      rw [if_pos (by omega), if_pos (by omega), if_pos (by omega), if_pos (by simp only [List.length_append, List.length_cons]; omega), hr, hs, show wrap64 ((i : Int) + 1) = ((i + 1 : Nat) : Int) from by unfold wrap64; omega, ih, rd_drop y i (by omega)]
      simp [join]
theorem join_k (x y : List Int) (hx : vok x = true) (hy : vok y = true) {k : Nat} (hk : 12 ≤ k) : vector_Join.f k x y = some (join x y, 0) := by
  have lx : x.length = 4 := by unfold vok at hx; simp only [Bool.and_eq_true, decide_eq_true_eq] at hx; exact hx.1
  have ly : y.length = 4 := by unfold vok at hy; simp only [Bool.and_eq_true, decide_eq_true_eq] at hy; exact hy.1
  unfold vector_Join.f
  rw [may_k x (by omega), may_k y (by omega), hx, hy]
  simp only [Option.bind_some, if_true]
  obtain ⟨m, rfl⟩ : ∃ m, k = (m + 4 + 1) + 1 := ⟨k - 6, by omega⟩
  simp only [vector_Join.j0, Bool.not_true, Bool.false_eq_true, if_false, slices_Clone_int_int.f]
  rw [if_pos (by omega)]
  simp only [Option.bind_some]
  have h := join_l0 y ly 4 0 [] x rfl rfl lx m
  simpa using h
theorem join_bad (x y : List Int) (h : (vok x && vok y) = false) {k : Nat} (hk : 12 ≤ k) : vector_Join.f k x y = some ([], 1100) := by
  unfold vector_Join.f
  rw [may_k x (by omega), may_k y (by omega)]
  obtain ⟨m, rfl⟩ : ∃ m, k = m + 1 := ⟨k - 1, by omega⟩
  cases hx : vok x <;> cases hy : vok y <;> simp_all [vector_Join.j0]
/-- One more for a node. -/
theorem step_k (x : List Int) (n : Nat) (hx : vok x = true) (hn : n < 4) {k : Nat} (hk : 12 ≤ k) : vector_Step.f k x (n : Int) = some (if rd x (n : Int) = 1048576 then ([], 1101) else (x.set n (rd x (n : Int) + 1), 0)) := by
  have lx : x.length = 4 := by unfold vok at hx; simp only [Bool.and_eq_true, decide_eq_true_eq] at hx; exact hx.1
  unfold vector_Step.f vector_Node.f
  rw [may_k x (by omega), hx]
  simp only [Option.bind_some, if_true]
  rw [if_pos (by omega)]
  obtain ⟨m, rfl⟩ : ∃ m, k = m + 1 := ⟨k - 1, by omega⟩
  have hb : 0 ≤ rd x (n : Int) ∧ rd x (n : Int) ≤ 1048576 := by
    obtain ⟨a, b, c, d, rfl, ha, hb, hc, hd⟩ := four_of hx
    match n, hn with
    | 0, _ => exact ha
    | 1, _ => exact hb
    | 2, _ => exact hc
    | 3, _ => exact hd
  have hd : decide ((n : Int) < 4) = true := decide_eq_true (by omega)
  simp only [Option.bind_some, hd, vector_Step.j0, Bool.not_true, Bool.false_eq_true, if_false, slices_Clone_int_int.f]
  rw [if_pos (by omega), if_pos (by omega), if_pos (show x.length < 17592186044416 by omega)]
  by_cases h : rd x (n : Int) = 1048576
  · rw [if_pos h, if_pos h]
  · rw [if_neg h, if_neg h]
    simp only [Option.bind_some]
    rw [if_pos (by omega), show wrap64 (rd x (n : Int) + 1) = rd x (n : Int) + 1 from by unfold wrap64; omega]
    simp
theorem step_bad (x : List Int) (n : Int) (h : vok x = false ∨ n < 0 ∨ 4 ≤ n) {k : Nat} (hk : 12 ≤ k) : vector_Step.f k x n = some ([], 1100) := by
  unfold vector_Step.f vector_Node.f
  rw [may_k x (by omega)]
  obtain ⟨m, rfl⟩ : ∃ m, k = m + 1 := ⟨k - 1, by omega⟩
  cases hx : vok x
  · simp [vector_Step.j0]
  · rcases h with h | h | h
    · simp_all
    · simp only [Option.bind_some, if_true]
      rw [if_neg (by omega)]
      simp [vector_Step.j0]
    · simp only [Option.bind_some, if_true]
      rw [if_pos (by omega)]
      have hd : decide (n < 4) = false := decide_eq_false (by omega)
      simp [vector_Step.j0, hd]
theorem same_l0 (x y : List Int) (hxy : x.length = y.length) (hl : x.length ≤ 4611686018427387904) : ∀ (d i : Nat), i + d = x.length → ∀ k, portagelaw0_SameInts.l0 (k + d + 1) x y (i : Int) = some (decide (x.drop i = y.drop i))
  | 0, i, hi, k => by
    simp only [portagelaw0_SameInts.l0]
    rw [if_neg (by omega), List.drop_eq_nil_of_le (show x.length ≤ i by omega), List.drop_eq_nil_of_le (show y.length ≤ i by omega)]
    simp
  | d + 1, i, hi, k => by
    have ih := same_l0 x y hxy hl d (i + 1) (by omega) k
    rw [show k + (d + 1) + 1 = (k + d + 1) + 1 from by omega]
    generalize k + d + 1 = K at ih ⊢
    simp only [portagelaw0_SameInts.l0]
    rw [if_pos (by omega), if_pos (by omega), if_pos (by omega), rd_drop x i (by omega), rd_drop y i (by omega), show wrap64 ((i : Int) + 1) = ((i + 1 : Nat) : Int) from by unfold wrap64; omega, ih]
    by_cases h : rd x (i : Int) = rd y (i : Int)
    · rw [if_pos h, h]
      simp
    · rw [if_neg h]
      simp [h]
theorem same_k (x y : List Int) (hl : x.length ≤ 4611686018427387904) {k : Nat} (hk : x.length + 1 ≤ k) : portagelaw0_SameInts.f k x y = some (decide (x = y)) := by
  unfold portagelaw0_SameInts.f
  by_cases h : x.length = y.length
  · rw [if_pos (by omega)]
    obtain ⟨m, rfl⟩ : ∃ m, k = m + x.length + 1 := ⟨k - (x.length + 1), by omega⟩
    have := same_l0 x y h hl x.length 0 (by omega) m
    simpa using this
  · rw [if_neg (by omega)]
    have : x ≠ y := fun e => h (by rw [e])
    simp [this]
end Go.Proofs.Ytnjbbfcknijcnaa.L
