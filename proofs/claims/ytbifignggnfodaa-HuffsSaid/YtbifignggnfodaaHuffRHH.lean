/- The document's own codes by lengths: the same check, the same codes, the same finding. -/
import Derived.Test.YtbifignggnfodaaHuffLHH
import Derived.Test.YtbifignggnfodaaHH4
import Derived.Test.YtbifignggnfodaaHH5
import Derived.Test.YtbifignggnfodaaHH6
namespace Go.Proofs.Ytbifignggnfodaa.HH
set_option linter.unusedVariables false
set_option linter.unusedSimpArgs false
open Go.RowKit Go.Proofs.YtbifignggnfodaaW.PrintWords Go.Proofs.YtbifignggnfodaaW.PrintLast Go.Proofs.YtbifignggnfodaaW.PrintMore Go.Proofs.Ytbifignggnfodaa.HuffM
theorem take_snoc' (l : List Int) (i : Nat) (hi : i < l.length) : l.take (i + 1) = l.take i ++ [rd l (i : Int)] := by
  rw [List.take_succ_eq_append_getElem hi]
  unfold rd
  rw [Int.toNat_natCast, List.getD_eq_getElem?_getD, List.getElem?_eq_getElem hi]
  rfl
theorem refMay_loop (l : List Int) (hl : l.length ≤ 288) : ∀ (d i K : Nat), i + d = l.length → d + 1 ≤ K → portageref1_lengthsMay.l0 K l (i : Int) = some ((l.drop i).all fun x => decide (0 ≤ x ∧ x ≤ 15))
  | 0, i, K, hi, hK => by
    obtain ⟨m, rfl⟩ : ∃ m, K = m + 1 := ⟨K - 1, by omega⟩
    rw [portageref1_lengthsMay.l0, if_neg (by omega), List.drop_of_length_le (by omega)]
    rfl
  | d + 1, i, K, hi, hK => by
    obtain ⟨m, rfl⟩ : ∃ m, K = m + 1 := ⟨K - 1, by omega⟩
    have hlt : i < l.length := by omega
    have hd : l.drop i = rd l (i : Int) :: l.drop (i + 1) := by
      rw [List.drop_eq_getElem_cons hlt]
      unfold rd
      rw [Int.toNat_natCast, List.getD_eq_getElem?_getD, List.getElem?_eq_getElem hlt]
      rfl
    have ih := refMay_loop l hl d (i + 1) m (by omega) (by omega)
    have hw : wrap64 ((i : Int) + 1) = ((i + 1 : Nat) : Int) := by unfold wrap64; omega
    rw [portageref1_lengthsMay.l0, if_pos (by omega), if_pos (by omega), hd, List.all_cons]
    by_cases h1 : rd l (i : Int) < 0
    · rw [if_pos h1, decide_eq_false (by omega)]
      rfl
    · rw [if_neg h1]
      by_cases h2 : rd l (i : Int) > 15
      · rw [if_pos h2, decide_eq_false (by omega)]
        rfl
      · rw [if_neg h2, hw, ih, decide_eq_true (by omega)]
        rfl
theorem refMay (l : List Int) {K : Nat} (hK : 300 ≤ K) : portageref1_lengthsMay.f K l = some (huffMay l) := by
  obtain ⟨m, rfl⟩ : ∃ m, K = m + 1 := ⟨K - 1, by omega⟩
  unfold portageref1_lengthsMay.f huffMay
  by_cases h1 : (l.length : Int) < 1
  · rw [if_pos h1, portageref1_lengthsMay.j0, if_pos rfl, decide_eq_false (by omega)]
    rfl
  · rw [if_neg h1]
    by_cases h2 : (l.length : Int) > 288
    · rw [decide_eq_true h2, portageref1_lengthsMay.j0, if_pos rfl, decide_eq_false (by omega)]
      rfl
    · rw [decide_eq_false h2, portageref1_lengthsMay.j0, if_neg (by decide), decide_eq_true (by omega), Bool.true_and]
      exact refMay_loop l (by omega) l.length 0 m (by omega) (by omega)
theorem room_snoc (l : List Int) (n : Nat) (hn : n ≤ 15) : ∀ k : Nat, k ≤ 16 → room (l ++ [(n : Int)]) k = room l k + (if 0 < n ∧ n < k then 2 ^ (15 - n) else 0)
  | 0, _ => by simp [room]
  | k + 1, hk => by
    have ih := room_snoc l n hn k (by omega)
    show room (l ++ [(n : Int)]) k + cnt (l ++ [(n : Int)]) k * 2 ^ (15 - k) = room l k + cnt l k * 2 ^ (15 - k) + _
    rw [ih]
    by_cases h0 : n = 0
    · subst h0
      rw [if_neg (by omega), if_neg (by omega), cnt_snoc_zero _ _ _ (by decide)]
      omega
    · by_cases e : n = k
      · subst e
        rw [cnt_snoc_eq _ _ h0, if_neg (by omega), if_pos (by omega), Int.add_mul]
        omega
      · rw [cnt_snoc_ne _ _ _ (by omega)]
        by_cases h1 : n < k
        · rw [if_pos (by omega), if_pos (by omega)]; omega
        · rw [if_neg (by omega), if_neg (by omega)]; omega
theorem room_nil : ∀ k : Nat, room [] k = 0
  | 0 => rfl
  | k + 1 => by
    show room [] k + cnt [] k * 2 ^ (15 - k) = 0
    rw [room_nil k, cnt_nil, Int.zero_mul]
    rfl
theorem room_le_all (l : List Int) (hl : l.length ≤ 288) : ∀ k : Nat, k ≤ 16 → 0 ≤ room l k ∧ room l k ≤ 10000000 * (k : Int)
  | 0, _ => by simp [room]
  | k + 1, hk => by
    have ih := room_le_all l hl k (by omega)
    have hc := cnt_bd l k
    have hp := pow_pos' (15 - k)
    have hp2 : (2 : Int) ^ (15 - k) ≤ 32768 := by
      have h1 : (2 : Int) ^ (15 - k) ≤ 2 ^ 15 := by exact_mod_cast Nat.pow_le_pow_right (n := 2) (by decide) (show 15 - k ≤ 15 by omega)
      have h2 : (2 : Int) ^ 15 = 32768 := by decide
      omega
    have h1 : 0 ≤ cnt l k * 2 ^ (15 - k) := Int.mul_nonneg hc.1 (Int.le_of_lt hp)
    have h2 : cnt l k * 2 ^ (15 - k) ≤ 288 * 32768 := Int.mul_le_mul (by omega) hp2 (Int.le_of_lt hp) (by decide)
    show 0 ≤ room l k + cnt l k * 2 ^ (15 - k) ∧ room l k + cnt l k * 2 ^ (15 - k) ≤ 10000000 * ((k + 1 : Nat) : Int)
    omega
section
variable {l : List Int} (hm : huffMay l = true)
include hm
theorem len_at (i : Nat) (hi : i < l.length) : ∃ n : Nat, rd l (i : Int) = (n : Int) ∧ n ≤ 15 := by
  have := (huffMay_out hm).2 _ (HuffA.rd_mem l i hi)
  exact ⟨(rd l (i : Int)).toNat, by omega, by omega⟩
theorem refRoom_loop : ∀ (d i K : Nat), i + d = l.length → d + 1 ≤ K → portageref1_room.l0 K l (room (l.take i) 16) (i : Int) = some (room l 16)
  | 0, i, K, hi, hK => by
    obtain ⟨m, rfl⟩ : ∃ m, K = m + 1 := ⟨K - 1, by omega⟩
    rw [portageref1_room.l0, if_neg (by omega), List.take_of_length_le (by omega)]
  | d + 1, i, K, hi, hK => by
    obtain ⟨m, rfl⟩ : ∃ m, K = m + 1 := ⟨K - 1, by omega⟩
    have hlt : i < l.length := by omega
    have hl := (huffMay_out hm).1
    obtain ⟨n, hn, hn15⟩ := len_at hm i hlt
    have ih := refRoom_loop d (i + 1) m (by omega) (by omega)
    have hw : wrap64 ((i : Int) + 1) = ((i + 1 : Nat) : Int) := by unfold wrap64; omega
    have ht := take_snoc' l i hlt
    rw [hn] at ht
    have hrs := room_snoc (l.take i) n hn15 16 (by omega)
    rw [← ht] at hrs
    have hb := room_le_all (l.take i) (by rw [List.length_take]; omega) 16 (by omega)
    rw [portageref1_room.l0, if_pos (by omega), if_pos (by omega), hn, hw]
    by_cases h0 : n = 0
    · subst h0
      rw [if_neg (by omega)] at hrs
      rw [if_neg (by omega), show room (l.take i) 16 = room (l.take (i + 1)) 16 by omega]
      exact ih
    · rw [if_pos (by omega)] at hrs
      have hs : wrap64 (15 - (n : Int)) = ((15 - n : Nat) : Int) := by unfold wrap64; omega
      have hsh : ∀ q : Nat, q < 16 → shl .i64 1 (q : Int) = 2 ^ q ∧ (2 : Int) ^ q ≤ 32768 := by decide +kernel
      obtain ⟨s1, s2⟩ := hsh (15 - n) (by omega)
      have hp := pow_pos' (15 - n)
      have hw2 : wrap64 (room (l.take i) 16 + 2 ^ (15 - n)) = room (l.take (i + 1)) 16 := by rw [hrs]; unfold wrap64; omega
      rw [if_pos (by omega), hs, if_pos (by omega), s1, hw2]
      exact ih
theorem refRoom {K : Nat} (hK : 300 ≤ K) : portageref1_room.f K l = some (room l 16) := by
  have hl := (huffMay_out hm).1
  have := refRoom_loop hm l.length 0 K (by omega) (by omega)
  have e : room (l.take 0) 16 = 0 := by rw [List.take_zero]; exact room_nil 16
  rw [e] at this
  exact this
end
theorem refCheck (l : List Int) {K : Nat} (hK : 300 ≤ K) : portageref1_Check.f K l = huff_Check.f l := by
  unfold portageref1_Check.f
  rw [refMay l hK, Option.bind_some]
  cases hm : huffMay l with
  | false => rw [if_neg (by decide), check_form hm]
  | true =>
    rw [if_pos rfl, refRoom hm hK, Option.bind_some, check_yes hm]
    by_cases h1 : room l 16 > 32768
    · rw [if_pos h1, if_pos h1]
    · rw [if_neg h1, if_neg h1]
      by_cases h2 : room l 16 < 32768
      · rw [if_pos h2, if_pos h2]
      · rw [if_neg h2, if_neg h2]
theorem parts_length (l : List Int) (n j : Nat) : (huffParts l n j).length = l.length := by unfold huffParts; simp
section
variable {l : List Int} (hm : huffMay l = true)
include hm
set_option maxRecDepth 20000 in
theorem refCodes_in (n : Nat) (h1 : 1 ≤ n) (hn : n ≤ 15) (E : Nat) (hk : ∀ K, E ≤ K → portageref1_Codes.l0 K l (huffParts l (n + 1) 0) (cd l n + cnt l n) ((n + 1 : Nat) : Int) = some (huffCodes l, 0)) :
    ∀ (d i j K : Nat), i + d = l.length → cnt (l.take i) n = (j : Int) → E + d + 1 ≤ K → portageref1_Codes.l1 K l (huffParts l n j) (cd l n + (j : Int)) (n : Int) (i : Int) = some (huffCodes l, 0)
  | 0, i, j, K, hi, hj, hK => by
    obtain ⟨m, rfl⟩ : ∃ m, K = m + 1 := ⟨K - 1, by omega⟩
    have hw : wrap64 ((n : Int) + 1) = ((n + 1 : Nat) : Int) := by unfold wrap64; omega
    rw [List.take_of_length_le (by omega)] at hj
    rw [portageref1_Codes.l1, if_neg (by omega), hw, huffParts_next l n j hj.symm, ← hj]
    exact hk m (by omega)
  | d + 1, i, j, K, hi, hj, hK => by
    obtain ⟨m, rfl⟩ : ∃ m, K = m + 1 := ⟨K - 1, by omega⟩
    have hlt : i < l.length := by omega
    have hl := (huffMay_out hm).1
    have hcd := cd_small l hl n (by omega)
    have hw : wrap64 ((i : Int) + 1) = ((i + 1 : Nat) : Int) := by unfold wrap64; omega
    have ht := take_snoc' l i hlt
    rw [portageref1_Codes.l1, if_pos (by omega), if_pos (by omega), hw]
    by_cases hx : rd l (i : Int) = (n : Int)
    · obtain ⟨c0, c1⟩ := code_room i hlt n hx (by omega)
      have hcb := cnt_bd l n
      have hw2 : wrap64 (cd l n + (j : Int) + 1) = cd l n + ((j + 1 : Nat) : Int) := by unfold wrap64; omega
      have hj2 : cnt (l.take (i + 1)) n = ((j + 1 : Nat) : Int) := by rw [ht, hx, cnt_snoc_eq _ _ (by omega), hj]; omega
      rw [if_pos hx, if_pos (by rw [parts_length]; omega), Int.toNat_natCast, huffParts_put l n j i hlt hx (by omega) hj, hw2]
      exact refCodes_in n h1 hn E hk d (i + 1) (j + 1) m (by omega) hj2 (by omega)
    · have hj2 : cnt (l.take (i + 1)) n = (j : Int) := by rw [ht, cnt_snoc_ne _ _ _ hx, hj]
      rw [if_neg hx]
      exact refCodes_in n h1 hn E hk d (i + 1) j m (by omega) hj2 (by omega)
set_option maxRecDepth 20000 in
theorem refCodes_out : ∀ (e n K : Nat), n + e = 15 → e * 300 + 320 ≤ K → portageref1_Codes.l0 K l (huffParts l (n + 1) 0) (cd l n + cnt l n) ((n + 1 : Nat) : Int) = some (huffCodes l, 0)
  | 0, n, K, he, hK => by
    obtain ⟨m, rfl⟩ : ∃ m, K = m + 1 := ⟨K - 1, by omega⟩
    obtain rfl : n = 15 := by omega
    rw [portageref1_Codes.l0, if_neg (by omega), huffParts_all l (huffMay_out hm).2]
  | e + 1, n, K, he, hK => by
    obtain ⟨m, rfl⟩ : ∃ m, K = m + 1 := ⟨K - 1, by omega⟩
    have hl := (huffMay_out hm).1
    have hcd := cd_small l hl (n + 1) (by omega)
    have ew : wrap64 (2 * (cd l n + cnt l n)) = cd l (n + 1) := by
      rw [Int.mul_comm]
      show wrap64 (cd l (n + 1)) = cd l (n + 1)
      unfold wrap64; omega
    have z : cnt (l.take 0) (n + 1) = ((0 : Nat) : Int) := by rw [List.take_zero, cnt_nil]; rfl
    have := refCodes_in hm (n + 1) (by omega) (by omega) (e * 300 + 320) (fun K hK => refCodes_out e (n + 1) K (by omega) hK) l.length 0 0 m (by omega) z (by omega)
    rw [portageref1_Codes.l0, if_pos (by omega), ew]
    rw [show cd l (n + 1) + ((0 : Nat) : Int) = cd l (n + 1) by omega] at this
    exact this
theorem refCodes_go {K : Nat} (hK : 5000 ≤ K) : portageref1_Codes.l0 K l (List.replicate l.length z43) 0 1 = some (huffCodes l, 0) := by
  have h := refCodes_out hm 15 0 K (by omega) (by omega)
  have e : huffParts l (0 + 1) 0 = List.replicate l.length z43 := by
    rw [← huffParts_next l 0 0 rfl, huffParts_zero]
    rfl
  rw [e] at h
  exact h
end
theorem refCodes (l : List Int) {K : Nat} (hK : 5001 ≤ K) : portageref1_Codes.f K l = huff_Codes.f l := by
  unfold portageref1_Codes.f
  rw [refCheck l (by omega)]
  obtain ⟨m, rfl⟩ : ∃ m, K = m + 1 := ⟨K - 1, by omega⟩
  cases hm : huffMay l with
  | false =>
    rw [check_form hm, Option.bind_some, if_neg (by decide), codes_form hm, portageref1_Codes.j0, if_pos (by decide)]
  | true =>
    have hl := (huffMay_out hm).1
    rw [check_yes hm, Option.bind_some]
    have go : ∀ t : Int, portageref1_Codes.j0 (m + 1) l t false = some (huffCodes l, 0) := fun t => by
      rw [portageref1_Codes.j0, if_neg (by decide), if_pos (by omega), Int.toNat_natCast, if_pos (by omega)]
      exact refCodes_go hm (by omega)
    by_cases h1 : room l 16 > 32768
    · rw [if_pos h1, if_neg (by decide), codes_over hm h1, portageref1_Codes.j0, if_pos (by decide)]
    · rw [if_neg h1, codes_yes hm (by omega)]
      by_cases h2 : room l 16 < 32768
      · rw [if_pos h2, if_neg (by decide), show ((302 : Int) != 302) = false by decide]
        exact go 302
      · rw [if_neg h2, if_pos rfl]
        exact go 0
/-- What a finder looks for. -/
def Hit (l : List Int) (b v : Int) (i : Nat) : Prop := (huffCode l i).f0 > 0 ∧ (huffCode l i).f0 = b ∧ (huffCode l i).f1 = v
theorem refFind_none (l : List Int) (b v : Int) (hl : l.length ≤ 288) (h : ∀ i, i < l.length → ¬ Hit l b v i) : ∀ (d i K : Nat), i + d = l.length → d + 1 ≤ K → portageref1_Find.l0 K b v (huffCodes l) (i : Int) = some (0, false, 0)
  | 0, i, K, hi, hK => by
    obtain ⟨m, rfl⟩ : ∃ m, K = m + 1 := ⟨K - 1, by omega⟩
    rw [portageref1_Find.l0, huffCodes_length, if_neg (by omega)]
  | d + 1, i, K, hi, hK => by
    obtain ⟨m, rfl⟩ : ∃ m, K = m + 1 := ⟨K - 1, by omega⟩
    have hw : wrap64 ((i : Int) + 1) = ((i + 1 : Nat) : Int) := by unfold wrap64; omega
    have ih := refFind_none l b v hl h d (i + 1) m (by omega) (by omega)
    have hh := h i (by omega)
    rw [portageref1_Find.l0, huffCodes_length, if_pos (by omega), if_pos (by omega), huffCodes_at l i (by omega), hw, ih]
    by_cases h1 : (huffCode l i).f0 > 0
    · rw [if_pos h1]
      by_cases h2 : (huffCode l i).f0 = b
      · rw [if_pos h2]
        by_cases h3 : (huffCode l i).f1 = v
        · exact absurd ⟨h1, h2, h3⟩ hh
        · rw [if_neg h3]
      · rw [if_neg h2]
    · rw [if_neg h1]
theorem refFind_some (l : List Int) (b v : Int) (hl : l.length ≤ 288) (i0 : Nat) (hi0 : i0 < l.length) (h : ∀ i, i < i0 → ¬ Hit l b v i) (hh0 : Hit l b v i0) : ∀ (d i K : Nat), i + d = i0 → d + 1 ≤ K → portageref1_Find.l0 K b v (huffCodes l) (i : Int) = some ((i0 : Int), true, 0)
  | 0, i, K, hi, hK => by
    obtain ⟨m, rfl⟩ : ∃ m, K = m + 1 := ⟨K - 1, by omega⟩
    obtain rfl : i = i0 := by omega
    obtain ⟨h1, h2, h3⟩ := hh0
    rw [portageref1_Find.l0, huffCodes_length, if_pos (by omega), if_pos (by omega), huffCodes_at l i (by omega), if_pos h1, if_pos h2, if_pos h3]
  | d + 1, i, K, hi, hK => by
    obtain ⟨m, rfl⟩ : ∃ m, K = m + 1 := ⟨K - 1, by omega⟩
    have hw : wrap64 ((i : Int) + 1) = ((i + 1 : Nat) : Int) := by unfold wrap64; omega
    have ih := refFind_some l b v hl i0 hi0 h hh0 d (i + 1) m (by omega) (by omega)
    have hh := h i (by omega)
    rw [portageref1_Find.l0, huffCodes_length, if_pos (by omega), if_pos (by omega), huffCodes_at l i (by omega), hw, ih]
    by_cases h1 : (huffCode l i).f0 > 0
    · rw [if_pos h1]
      by_cases h2 : (huffCode l i).f0 = b
      · rw [if_pos h2]
        by_cases h3 : (huffCode l i).f1 = v
        · exact absurd ⟨h1, h2, h3⟩ hh
        · rw [if_neg h3]
      · rw [if_neg h2]
    · rw [if_neg h1]
theorem hit_out {l : List Int} (hm : huffMay l = true) {b v : Int} {i : Nat} (hi : i < l.length) (h : Hit l b v i) : ∃ n : Nat, n ≠ 0 ∧ n ≤ 15 ∧ b = (n : Int) ∧ rd l (i : Int) = (n : Int) ∧ v = cd l n + cnt (l.take i) n := by
  obtain ⟨n, hn, hn15⟩ := len_at hm i hi
  obtain ⟨h1, h2, h3⟩ := h
  by_cases h0 : n = 0
  · subst h0
    unfold huffCode at h1
    rw [if_neg (by omega)] at h1
    exact absurd h1 (by decide)
  · unfold huffCode at h2 h3
    rw [if_pos (by omega), hn] at h2 h3
    rw [Int.toNat_natCast] at h3
    exact ⟨n, h0, hn15, h2.symm, hn, h3.symm⟩
theorem take_lt' (l : List Int) (i j n : Nat) (hi : i < l.length) (hj : j < i) (h : rd l (j : Int) = (n : Int)) (h0 : n ≠ 0) : cnt (l.take j) n < cnt (l.take i) n := by
  have := huffCnt_lt (l.take i) j n (by rw [List.length_take]; omega) (by
    rw [← h]; unfold rd
    rw [Int.toNat_natCast, List.getD_eq_getElem?_getD, List.getD_eq_getElem?_getD, List.getElem?_take, if_pos hj]) h0
  rw [List.take_take, Nat.min_eq_left (by omega)] at this
  exact this
theorem refFind (l : List Int) (b v : Int) (hv : -9223372036854775808 ≤ v ∧ v ≤ 9223372036854775807) {K : Nat} (hK : 5001 ≤ K) : portageref1_Find.f K l b v = huff_Find.f l b v := by
  unfold portageref1_Find.f
  rw [refCodes l hK]
  cases hm : huffMay l with
  | false =>
    rw [codes_form hm, Option.bind_some, if_neg (by decide), find_form hm]
  | true =>
    have hl := (huffMay_out hm).1
    by_cases hr : room l 16 ≤ 32768
    · rw [codes_yes hm hr, Option.bind_some, if_pos rfl]
      dsimp only
      by_cases hb : b < 1 ∨ b > 15
      · rw [find_far hm hr b v hb]
        refine refFind_none l b v hl (fun i hi h => ?_) l.length 0 K (by omega) (by omega)
        obtain ⟨n, n0, n1, n2, _⟩ := hit_out hm hi h
        omega
      · obtain ⟨n, rfl⟩ : ∃ n : Nat, b = (n : Int) := ⟨b.toNat, by omega⟩
        rw [find_at hm hr n (by omega) (by omega) v hv]
        by_cases hc : cd l n ≤ v ∧ v - cd l n < cnt l n
        · rw [if_pos hc]
          obtain ⟨q, hq⟩ : ∃ q : Nat, v - cd l n = (q : Int) := ⟨(v - cd l n).toNat, by omega⟩
          have hpl := pos_length l n
          obtain ⟨i, hi, e1, e2, e3⟩ := huffPos_at l n q (by omega)
          rw [hq, e1]
          refine refFind_some l n v hl i hi (fun j hj h => ?_) ?_ i 0 K (by omega) (by omega)
          · obtain ⟨n', n0, n1, n2, n3, n4⟩ := hit_out hm (by omega) h
            obtain rfl : n = n' := by omega
            have := take_lt' l i j n hi hj n3 n0
            omega
          · unfold Hit huffCode
            rw [if_pos (by omega), e2, Int.toNat_natCast, e3]
            exact ⟨by show (n : Int) > 0; omega, rfl, by show cd l n + (q : Int) = v; omega⟩
        · rw [if_neg hc]
          refine refFind_none l n v hl (fun i hi h => ?_) l.length 0 K (by omega) (by omega)
          obtain ⟨n', n0, n1, n2, n3, n4⟩ := hit_out hm hi h
          obtain rfl : n = n' := by omega
          have := code_room i hi n n3 n0
          omega
    · rw [codes_over hm (by omega), Option.bind_some, if_neg (by decide), find_over hm (by omega)]
end Go.Proofs.Ytbifignggnfodaa.HH
