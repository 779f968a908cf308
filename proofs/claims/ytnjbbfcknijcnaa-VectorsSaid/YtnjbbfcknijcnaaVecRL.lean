/- The reference's functions of chapter 11 answer as the program's; what is lent is kept. -/
import Derived.Test.YtnjbbfcknijcnaaVecLL
import Derived.Test.YtnjbbfcknijcnaaL3
import Derived.Test.YtnjbbfcknijcnaaL4
import Derived.Test.YtnjbbfcknijcnaaL6
import Derived.Test.YtnjbbfcknijcnaaL7
import Derived.Test.YtnjbbfcknijcnaaL1
import Derived.Test.YtnjbbfcknijcnaaL8
import Derived.Test.YtnjbbfcknijcnaaL9
namespace Go.Proofs.Ytnjbbfcknijcnaa.L
set_option linter.unusedVariables false
set_option linter.unusedSimpArgs false
open Go.RowKit Go.Proofs.YtnjbbfcknijcnaaW.PrintWords Go.Proofs.YtnjbbfcknijcnaaW.PrintLast Go.Proofs.YtnjbbfcknijcnaaW.PrintMore
theorem w64 {n : Int} (h : -9223372036854775808 ≤ n) (h' : n < 9223372036854775808) : wrap64 n = n := by unfold wrap64; omega
theorem num_k (n : Int) : portagelaw0_Num.f n = some n := rfl
theorem awake_true {k : Nat} (hk : 20 ≤ k) : portagelaw11_awake.f k = some true := at_rounds (g := fun k => portagelaw11_awake.f k) portagelaw11_awake.mono hk (by decide +kernel)
theorem refmay_l0 (l : List Int) (hl : l.length ≤ 4611686018427387904) : ∀ (d i : Nat), i + d = l.length → ∀ K, d + 1 ≤ K → portageref10_VecMay.l0 K l (i : Int) = some (decide (l.length = 4) && (l.drop i).all okc)
  | 0, i, hi, K, hK => by
    obtain ⟨m, rfl⟩ : ∃ m, K = m + 1 := ⟨K - 1, by omega⟩
    simp only [portageref10_VecMay.l0]
    rw [if_neg (by omega), List.drop_eq_nil_of_le (by omega)]
    by_cases h : l.length = 4
    · rw [h]; rfl
    · rw [decide_eq_false h]
      have : (((l.length : Nat) : Int) == 4) = false := by simp only [beq_eq_false_iff_ne, ne_eq]; omega
      rw [this]; rfl
  | d + 1, i, hi, K, hK => by
    obtain ⟨m, rfl⟩ : ∃ m, K = m + 1 := ⟨K - 1, by omega⟩
    have ih := refmay_l0 l hl d (i + 1) (by omega) m (by omega)
    simp only [portageref10_VecMay.l0]
    rw [if_pos (by omega), if_pos (by omega), rd_drop l i (by omega), w64 (by omega) (by omega), show (i : Int) + 1 = ((i + 1 : Nat) : Int) from by omega, ih, List.all_cons]
    unfold okc
    by_cases h1 : rd l (i : Int) < 0
    · rw [if_pos h1, decide_eq_false (p := 0 ≤ rd l (i : Int)) (by omega)]; simp
    · rw [if_neg h1]
      by_cases h2 : rd l (i : Int) > 1048576
      · rw [if_pos h2, decide_eq_false (p := rd l (i : Int) ≤ 1048576) (by omega)]; simp
      · rw [if_neg h2, decide_eq_true (p := 0 ≤ rd l (i : Int)) (by omega), decide_eq_true (p := rd l (i : Int) ≤ 1048576) (by omega)]; simp
theorem refmay_k (l : List Int) (hl : l.length ≤ 4611686018427387904) {k : Nat} (hk : l.length + 1 ≤ k) : portageref10_VecMay.f k l = some (vok l) := by
  have := refmay_l0 l hl l.length 0 (by omega) k hk
  unfold portageref10_VecMay.f vok
  exact this
theorem reforder_end (k : Nat) (more less : Bool) : (if more = true then (portageref10_Order.j2 (k + 1) more less less) else (portageref10_Order.j2 (k + 1) more less false)) = some (ordOf less more, 0) := by
  unfold ordOf
  cases less <;> cases more <;> simp [portageref10_Order.j2]
theorem reforder_l0 (x y : List Int) (hx : x.length = 4) (hy : y.length = 4) : ∀ (d i : Nat) (more less : Bool), i + d = 4 → ∀ K, d + 2 ≤ K → portageref10_Order.l0 K x y more less (i : Int) = some (ordOf (less || lessAt (x.drop i) (y.drop i)) (more || moreAt (x.drop i) (y.drop i)), 0)
  | 0, i, more, less, hi, K, hK => by
    obtain ⟨m, rfl⟩ : ∃ m, K = m + 1 + 1 := ⟨K - 2, by omega⟩
    rw [portageref10_Order.l0, if_neg (by omega), List.drop_eq_nil_of_le (by omega), List.drop_eq_nil_of_le (by omega), reforder_end]
    cases more <;> cases less <;> rfl
  | d + 1, i, more, less, hi, K, hK => by
    obtain ⟨m, rfl⟩ : ∃ m, K = m + 1 := ⟨K - 1, by omega⟩
    have ih := fun a b => reforder_l0 x y hx hy d (i + 1) a b (by omega) m (by omega)
    rw [portageref10_Order.l0, if_pos (by omega), w64 (by omega) (by omega), show (i : Int) + 1 = ((i + 1 : Nat) : Int) from by omega]
    simp only [ih]
    rw [rd_drop x i (by omega), rd_drop y i (by omega), if_pos (show (0 : Int) ≤ (i : Int) by omega), if_pos (show (0 : Int) ≤ (i : Int) by omega), if_pos (show (i : Int) < (y.length : Int) by omega), if_pos (show (i : Int) < (y.length : Int) by omega)]
    cases more <;> cases less <;> simp [lessAt, moreAt]
theorem vok_len {l : List Int} (h : vok l = true) : l.length = 4 := by unfold vok at h; simp only [Bool.and_eq_true, decide_eq_true_eq] at h; exact h.1
theorem reforder_k (x y : List Int) (hx : x.length ≤ 4611686018427387904) (hy : y.length ≤ 4611686018427387904) {k : Nat} (hk : 12 + x.length + y.length ≤ k) : ∃ o e, vector_Order.f k x y = some (o, e) ∧ portageref10_Order.f k x y = some (o, e) := by
  unfold portageref10_Order.f
  rw [refmay_k x hx (by omega), refmay_k y hy (by omega)]
  by_cases h : (vok x && vok y) = true
  · simp only [Bool.and_eq_true] at h
    refine ⟨_, _, order_k x y h.1 h.2 (by omega), ?_⟩
    obtain ⟨m, rfl⟩ : ∃ m, k = m + 1 := ⟨k - 1, by omega⟩
    rw [Option.bind_some, if_pos h.1, Option.bind_some, h.2, Bool.not_true, portageref10_Order.j0, if_neg (by decide)]
    have := reforder_l0 x y (vok_len h.1) (vok_len h.2) 4 0 false false rfl m (by omega)
    exact this
  · refine ⟨_, _, order_bad x y (by simpa using h) (by omega), ?_⟩
    obtain ⟨m, rfl⟩ : ∃ m, k = m + 1 := ⟨k - 1, by omega⟩
    rw [Option.bind_some]
    by_cases h1 : vok x = true
    · rw [if_pos h1, Option.bind_some, show vok y = false by simpa [h1] using h, Bool.not_false, portageref10_Order.j0, if_pos rfl]
    · rw [if_neg h1, portageref10_Order.j0, if_pos rfl]
theorem refjoin_l0 (x y : List Int) (hx : x.length = 4) (hy : y.length = 4) : ∀ (d i : Nat) (p : List Int), i + d = 4 → p.length = i → ∀ K, d + 1 ≤ K → portageref10_Join.l0 K x y p (i : Int) = some (p ++ join (x.drop i) (y.drop i), 0)
  | 0, i, p, hi, hp, K, hK => by
    obtain ⟨m, rfl⟩ : ∃ m, K = m + 1 := ⟨K - 1, by omega⟩
    simp only [portageref10_Join.l0]
    rw [if_neg (by omega), List.drop_eq_nil_of_le (by omega)]
    simp [join]
  | d + 1, i, p, hi, hp, K, hK => by
    obtain ⟨m, rfl⟩ : ∃ m, K = m + 1 := ⟨K - 1, by omega⟩
    have ih := refjoin_l0 x y hx hy d (i + 1) (p ++ [mx (rd x (i : Int)) (rd y (i : Int))]) (by omega) (by simp [hp]) m (by omega)
    simp only [portageref10_Join.l0]
    rw [if_pos (by omega), if_pos (by omega), if_pos (by omega), if_pos (by omega), w64 (by omega) (by omega), show (i : Int) + 1 = ((i + 1 : Nat) : Int) from by omega, ih, rd_drop x i (by omega), rd_drop y i (by omega)]
    simp [join]
theorem join_len : ∀ x y : List Int, (join x y).length ≤ x.length
  | [], _ => by simp [join]
  | a :: x, [] => by simp [join]
  | a :: x, b :: y => by have := join_len x y; simp [join]; omega
theorem refjoin_k (x y : List Int) (hx : x.length ≤ 4611686018427387904) (hy : y.length ≤ 4611686018427387904) {k : Nat} (hk : 12 + x.length + y.length ≤ k) : ∃ o e, o.length ≤ 4 ∧ vector_Join.f k x y = some (o, e) ∧ portageref10_Join.f k x y = some (o, e) := by
  unfold portageref10_Join.f
  rw [refmay_k x hx (by omega), refmay_k y hy (by omega)]
  by_cases h : (vok x && vok y) = true
  · simp only [Bool.and_eq_true] at h
    have hl := join_len x y
    have := vok_len h.1
    refine ⟨_, _, by omega, join_k x y h.1 h.2 (by omega), ?_⟩
    obtain ⟨m, rfl⟩ : ∃ m, k = m + 1 := ⟨k - 1, by omega⟩
    rw [Option.bind_some, if_pos h.1, Option.bind_some, h.2, Bool.not_true, portageref10_Join.j0, if_neg (by decide)]
    have := refjoin_l0 x y (vok_len h.1) (vok_len h.2) 4 0 [] rfl rfl m (by omega)
    exact this
  · refine ⟨_, _, by simp, join_bad x y (by simpa using h) (by omega), ?_⟩
    obtain ⟨m, rfl⟩ : ∃ m, k = m + 1 := ⟨k - 1, by omega⟩
    rw [Option.bind_some]
    by_cases h1 : vok x = true
    · rw [if_pos h1, Option.bind_some, show vok y = false by simpa [h1] using h, Bool.not_false, portageref10_Join.j0, if_pos rfl]
    · rw [if_neg h1, portageref10_Join.j0, if_pos rfl]
theorem refstep_k (x : List Int) (n : Int) (hx : x.length ≤ 4611686018427387904) {k : Nat} (hk : 13 + x.length ≤ k) : ∃ o e, o.length ≤ 4 ∧ vector_Step.f k x n = some (o, e) ∧ portageref10_Step.f k x n = some (o, e) := by
  have hj : ∀ m, portageref10_Step.j0 (m + 1) x n true = some ([], 1100) := fun m => by rw [portageref10_Step.j0, if_pos rfl]
  unfold portageref10_Step.f
  rw [refmay_k x hx (by omega)]
  obtain ⟨q, rfl⟩ : ∃ q, k = q + 1 := ⟨k - 1, by omega⟩
  by_cases h : vok x = true
  · have hl := vok_len h
    rw [Option.bind_some, if_pos h]
    by_cases h0 : n < 0
    · exact ⟨_, _, by simp, step_bad x n (.inr (.inl h0)) (by omega), by rw [if_pos h0, hj]⟩
    by_cases h4 : 4 ≤ n
    · exact ⟨_, _, by simp, step_bad x n (.inr (.inr h4)) (by omega), by rw [if_neg h0, decide_eq_true h4, hj]⟩
    obtain ⟨m, rfl⟩ : ∃ m : Nat, n = (m : Int) := ⟨n.toNat, by omega⟩
    have hs := step_k x m h (by omega) (k := q + 1) (by omega)
    rw [if_neg h0, decide_eq_false h4, portageref10_Step.j0, if_neg (by decide), if_pos (by omega), if_pos (by omega)]
    by_cases hf : rd x (m : Int) = 1048576
    · rw [if_pos hf] at hs
      exact ⟨_, _, by simp, hs, by rw [if_pos hf]⟩
    · rw [if_neg hf] at hs
      refine ⟨_, _, by simp; omega, hs, ?_⟩
      have hr : 0 ≤ rd x (m : Int) ∧ rd x (m : Int) ≤ 1048576 := by
        obtain ⟨a, b, c, d, rfl, ha, hb, hc, hd⟩ := four_of h
        rcases (by omega : m = 0 ∨ m = 1 ∨ m = 2 ∨ m = 3) with rfl | rfl | rfl | rfl
        · exact ha
        · exact hb
        · exact hc
        · exact hd
      rw [if_neg hf, Option.bind_some, if_pos (by simp; omega), Option.bind_some, List.nil_append, if_pos (by omega), w64 (by omega) (by omega)]
      rfl
  · exact ⟨_, _, by simp, step_bad x n (.inl (by simpa using h)) (by omega), by rw [Option.bind_some, if_neg h, hj]⟩
theorem lend_k (l : List Int) (hl : l.length + 2 < 17592186044416) : portagelaw0_LendInts.f l = some (l, l ++ [-7777, -8888]) := by
  unfold portagelaw0_LendInts.f portagelaw0_CopyInts.f
  rw [Option.bind_some, if_pos (by simp; omega), Option.bind_some, Option.bind_some, if_pos (by simp; omega), Option.bind_some, if_pos (by omega), if_pos (by simp; omega)]
  simp
theorem kept_k (l : List Int) (hl : l.length ≤ 2305843009213693952) {k : Nat} (hk : l.length + 1 ≤ k) : portagelaw0_KeptInts.f k l (l ++ [-7777, -8888]) l = some true := by
  unfold portagelaw0_KeptInts.f
  have e : wrap64 ((l.length : Int) + 2) = ((l.length + 2 : Nat) : Int) := by rw [w64 (by omega) (by omega)]; omega
  have e1 : wrap64 ((l.length : Int) + 1) = ((l.length + 1 : Nat) : Int) := by rw [w64 (by omega) (by omega)]; omega
  have ht : (l ++ [-7777, -8888]).take (l.length + 2) = l ++ [-7777, -8888] := List.take_of_length_le (by simp)
  have hl2 : (l ++ [-7777, -8888] : List Int).length = l.length + 2 := by simp
  rw [e, if_pos (by omega), if_pos (by omega), show (((l.length + 2 : Nat) : Int)).toNat = l.length + 2 from by omega, ht, Option.bind_some, same_k l l (by omega) hk, decide_eq_true rfl, Option.bind_some, if_pos rfl, if_pos (by omega), if_pos (by omega)]
  have r1 : rd (l ++ [-7777, -8888]) (l.length : Int) = -7777 := by
    unfold rd; rw [show ((l.length : Int)).toNat = l.length from by omega, List.getD_eq_getElem?_getD, List.getElem?_append_right (by omega), Nat.sub_self]; rfl
  have r2 : rd (l ++ [-7777, -8888]) ((l.length + 1 : Nat) : Int) = -8888 := by
    unfold rd; rw [show (((l.length + 1 : Nat) : Int)).toNat = l.length + 1 from by omega, List.getD_eq_getElem?_getD, List.getElem?_append_right (by omega), show l.length + 1 - l.length = 1 from by omega]; rfl
  rw [r1, if_pos rfl, e1, if_pos (by omega), if_pos (by omega), r2]
  rfl
theorem spoil_l0 (hl : Nat) : ∀ (d i : Nat) (l : List Int), i + d = l.length → l.length ≤ 1000 → ∀ K, d + 1 ≤ K → ∃ r, portagelaw0_SpoilInts.l0 K l (i : Int) = some r
  | 0, i, l, hi, hs, K, hK => by
    obtain ⟨m, rfl⟩ : ∃ m, K = m + 1 := ⟨K - 1, by omega⟩
    exact ⟨l, by simp only [portagelaw0_SpoilInts.l0]; rw [if_neg (by omega)]⟩
  | d + 1, i, l, hi, hs, K, hK => by
    obtain ⟨m, rfl⟩ : ∃ m, K = m + 1 := ⟨K - 1, by omega⟩
    obtain ⟨r, hr⟩ := spoil_l0 hl d (i + 1) (l.set (i : Int).toNat (wrap64 (-9 - rd l (i : Int)))) (by simp; omega) (by simp; omega) m (by omega)
    refine ⟨r, ?_⟩
    simp only [portagelaw0_SpoilInts.l0]
    rw [if_pos (by omega), if_pos (by omega), w64 (n := (i : Int) + 1) (by omega) (by omega), show (i : Int) + 1 = ((i + 1 : Nat) : Int) from by omega]
    exact hr
theorem spoil_k (l : List Int) (hl : l.length ≤ 4) {k : Nat} (hk : 12 ≤ k) : ∃ r, portagelaw0_SpoilInts.f k l = some r := spoil_l0 0 l.length 0 l (by omega) (by omega) k (by omega)
end Go.Proofs.Ytnjbbfcknijcnaa.L
