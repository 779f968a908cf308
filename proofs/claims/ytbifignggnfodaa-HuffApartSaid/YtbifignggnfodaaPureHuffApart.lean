import Derived.Test.YtbifignggnfodaaHuffLHA
import Derived.Test.YtbifignggnfodaaHuffWHA
import Derived.Test.YtbifignggnfodaaHA5
namespace Go.Proofs.Ytbifignggnfodaa.Pure
set_option linter.unusedVariables false
set_option linter.unusedSimpArgs false
open Go.RowKit Go.Proofs.Ytbifignggnfodaa.HA Go.Proofs.YtbifignggnfodaaW.PrintWords Go.Proofs.YtbifignggnfodaaW.PrintLast Go.Proofs.YtbifignggnfodaaW.PrintMore Go.Proofs.Ytbifignggnfodaa.HuffM
namespace HA
theorem take_lt (l : List Int) (i j n : Nat) (hi : i < l.length) (hj : j < i) (h : rd l (j : Int) = (n : Int)) (h0 : n ≠ 0) : cnt (l.take j) n < cnt (l.take i) n := by
  have := huffCnt_lt (l.take i) j n (by rw [List.length_take]; omega) (by
    rw [← h]; unfold rd
    rw [Int.toNat_natCast, List.getD_eq_getElem?_getD, List.getD_eq_getElem?_getD, List.getElem?_take, if_pos hj]) h0
  rw [List.take_take, Nat.min_eq_left (by omega)] at this
  exact this
/-- A symbol stands in its length's row just where as many of this length stand ahead of it. -/
theorem pos_inv (l : List Int) (i n : Nat) (hi : i < l.length) (h : rd l (i : Int) = (n : Int)) (h0 : n ≠ 0) : rd (pos l n) (cnt (l.take i) n) = (i : Int) := by
  obtain ⟨c0, c1⟩ := code_room i hi n h h0
  obtain ⟨q, hq⟩ : ∃ q : Nat, cnt (l.take i) n = (q : Int) := ⟨(cnt (l.take i) n).toNat, by omega⟩
  have hpl := pos_length l n
  obtain ⟨i', hi', e1, e2, e3⟩ := huffPos_at l n q (by omega)
  rw [hq, e1]
  rcases Nat.lt_trichotomy i' i with h2 | h2 | h2
  · have := take_lt l i i' n hi h2 e2 h0
    omega
  · rw [h2]
  · have := take_lt l i' i n hi' h2 h h0
    omega
theorem le_of_mul {a b p : Int} (hp : 0 < p) (h : a * p ≤ b * p) : a ≤ b := Int.le_of_mul_le_mul_right h hp
/-- Codes of a length end within what its bits can say. -/
theorem top (l : List Int) (hr : room l 16 ≤ 32768) (n : Nat) (hn : n ≤ 15) : cd l n + cnt l n ≤ 2 ^ n := by
  have hp := pow_pos' (15 - n)
  refine le_of_mul hp ?_
  rw [Int.add_mul, cd_room l n hn]
  have h1 : room l (n + 1) ≤ room l 16 := room_le l (by omega)
  have h2 : room l (n + 1) = room l n + cnt l n * 2 ^ (15 - n) := rfl
  have h3 : (2 : Int) ^ n * 2 ^ (15 - n) = 32768 := by rw [← Int.pow_add, show n + (15 - n) = 15 by omega]; rfl
  omega
/-- A longer code lies behind. -/
theorem behind (l : List Int) (b b' : Nat) (hb : b < b') (hb' : b' ≤ 15) (v v' : Int) (hv : v < cd l b + cnt l b) (hv' : cd l b' ≤ v') : v + 1 ≤ v' / 2 ^ (b' - b) := by
  have hp := pow_pos' (b' - b)
  have hq := pow_pos' (15 - b')
  rw [Int.le_ediv_iff_mul_le hp]
  refine Int.le_trans ?_ hv'
  refine le_of_mul hq ?_
  rw [cd_room l b' hb', Int.mul_assoc, ← Int.pow_add, show b' - b + (15 - b') = 15 - b by omega]
  have h1 : room l (b + 1) ≤ room l b' := room_le l (by omega)
  have h2 : room l (b + 1) = (cd l b + cnt l b) * 2 ^ (15 - b) := by
    show room l b + cnt l b * 2 ^ (15 - b) = _
    rw [← cd_room l b (by omega), Int.add_mul]
  have h3 : (v + 1) * 2 ^ (15 - b) ≤ (cd l b + cnt l b) * 2 ^ (15 - b) := Int.mul_le_mul_of_nonneg_right (by omega) (Int.le_of_lt (pow_pos' _))
  omega
theorem code_pos {l : List Int} {i n : Nat} (h : rd l (i : Int) = (n : Int)) (h0 : n ≠ 0) : huffCode l i = ⟨(n : Int), cd l n + cnt (l.take i) n⟩ := by
  unfold huffCode
  rw [if_pos (by omega), h, Int.toNat_natCast]
theorem code_zero {l : List Int} {i : Nat} (h : rd l (i : Int) = 0) : huffCode l i = ⟨0, 0⟩ := by
  unfold huffCode
  rw [if_neg (by omega)]
theorem len_nat0 {l : List Int} (hm : huffMay l = true) (i : Nat) (hi : i < l.length) : ∃ n : Nat, rd l (i : Int) = (n : Int) ∧ n ≤ 15 := by
  have := (huffMay_out hm).2 _ (HuffA.rd_mem l i hi)
  exact ⟨(rd l (i : Int)).toNat, by omega, by omega⟩
section
variable {l : List Int} (hm : huffMay l = true) (hr : room l 16 ≤ 32768)
include hm hr
theorem round (i j n : Nat) (hi : i < l.length) (hj : j < l.length) (hn : rd l (i : Int) = (n : Int)) (h0 : n ≠ 0) (hn15 : n ≤ 15) (K : Nat) :
    portagelaw3_HuffApart.l1 (K + 1) l (huffCodes l) (i : Int) (j : Int) = portagelaw3_HuffApart.j4 K l (huffCodes l) (i : Int) (j : Int) false := by
  obtain ⟨m, hm1, hm15⟩ := len_nat0 hm j hj
  obtain ⟨c0, c1⟩ := code_room i hi n hn h0
  have hl := (huffMay_out hm).1
  have ct := top l hr n hn15
  have hcd := cd_small l hl n (by omega)
  have hlen := huffCodes_length l
  rw [portagelaw3_HuffApart.l1, huffCodes_at l i hi, huffCodes_at l j hj, code_pos hn h0, hlen]
  rw [if_pos (by omega), if_pos (by omega), if_pos (by omega), if_pos (by omega)]
  by_cases hij : (j : Int) = (i : Int)
  · rw [if_pos hij, if_neg (by omega)]
  · rw [if_neg hij]
    dsimp only
    by_cases hm0 : m = 0
    · subst hm0
      rw [code_zero hm1]
      dsimp only
      have hw : wrap64 (0 - (n : Int)) = -(n : Int) := by unfold wrap64; omega
      rw [hw, if_neg (by omega)]
      by_cases h2 : (j : Int) < (i : Int)
      · rw [if_pos h2, if_neg (by omega)]
      · rw [if_neg h2]
    · rw [code_pos hm1 hm0]
      dsimp only
      obtain ⟨d0, d1⟩ := code_room j hj m hm1 hm0
      have hcd2 := cd_small l hl m (by omega)
      have hw : wrap64 ((m : Int) - (n : Int)) = (m : Int) - (n : Int) := by unfold wrap64; omega
      rw [hw]
      have tail : n ≠ m → (if (j : Int) < (i : Int) then (if (m : Int) - (n : Int) = 0 then portagelaw3_HuffApart.j4 K l (huffCodes l) (i : Int) (j : Int) (decide (cd l m + cnt (l.take j) m ≥ cd l n + cnt (l.take i) n)) else portagelaw3_HuffApart.j4 K l (huffCodes l) (i : Int) (j : Int) false) else portagelaw3_HuffApart.j4 K l (huffCodes l) (i : Int) (j : Int) false) = portagelaw3_HuffApart.j4 K l (huffCodes l) (i : Int) (j : Int) false := by
        intro hne
        by_cases h2 : (j : Int) < (i : Int)
        · rw [if_pos h2, if_neg (by omega)]
        · rw [if_neg h2]
      rcases Nat.lt_trichotomy m n with hmn | hmn | hmn
      · rw [if_neg (by omega)]
        exact tail (by omega)
      · subst hmn
        rw [if_pos (by omega), if_pos (by omega), if_pos (by omega), show ((m : Int) - (m : Int)) = 0 by omega]
        have hs : shr .i64 (cd l m + cnt (l.take j) m) 0 = cd l m + cnt (l.take j) m := by unfold shr; simp
        rw [hs]
        have hne : cnt (l.take j) m ≠ cnt (l.take i) m := by
          rcases Nat.lt_or_ge j i with h2 | h2
          · have := take_lt l i j m hi h2 hm1 h0; omega
          · have := take_lt l j i m hj (by omega) hn h0; omega
        rw [if_neg (by omega)]
        by_cases h2 : (j : Int) < (i : Int)
        · have h3 := take_lt l i j m hi (by omega) hm1 h0
          rw [if_pos h2, if_pos rfl, decide_eq_false (by omega)]
        · rw [if_neg h2]
      · rw [if_pos (by omega), if_pos (by omega), if_pos (by omega)]
        have hb := behind l n m hmn (by omega) (cd l n + cnt (l.take i) n) (cd l m + cnt (l.take j) m) (by omega) (by omega)
        have hs : shr .i64 (cd l m + cnt (l.take j) m) ((m : Int) - (n : Int)) = (cd l m + cnt (l.take j) m) / 2 ^ (m - n) := by
          unfold shr
          rw [show ((m : Int) - (n : Int)).toNat = m - n by omega, Nat.min_eq_left (by show m - n ≤ 64; omega)]
        rw [hs, if_neg (by omega)]
        exact tail (by omega)
theorem inner (hL : l.length ≤ 60) (e i n : Nat) (hi : i < l.length) (hn : rd l (i : Int) = (n : Int)) (h0 : n ≠ 0) (hn15 : n ≤ 15) (hk : ∀ K, e * 200 + 10 ≤ K → portagelaw3_HuffApart.l0 K l (huffCodes l) ((i + 1 : Nat) : Int) = some true) :
    ∀ (d j K : Nat), j + d = l.length → e * 200 + 2 * d + 20 ≤ K → portagelaw3_HuffApart.l1 K l (huffCodes l) (i : Int) (j : Int) = some true
  | 0, j, K, hd, hK => by
    obtain ⟨m, rfl⟩ : ∃ m, K = m + 1 := ⟨K - 1, by omega⟩
    have hw : wrap64 ((i : Int) + 1) = ((i + 1 : Nat) : Int) := by unfold wrap64; omega
    rw [portagelaw3_HuffApart.l1, huffCodes_length, if_neg (by omega), hw]
    exact hk m (by omega)
  | d + 1, j, K, hd, hK => by
    obtain ⟨m, rfl⟩ : ∃ m, K = m + 1 + 1 := ⟨K - 2, by omega⟩
    have hw : wrap64 ((j : Int) + 1) = ((j + 1 : Nat) : Int) := by unfold wrap64; omega
    rw [round hm hr i j n hi (by omega) hn h0 hn15, portagelaw3_HuffApart.j4, if_neg (by decide), hw]
    exact inner hL e i n hi hn h0 hn15 hk d (j + 1) m (by omega) (by omega)
theorem outer (hL : l.length ≤ 60) : ∀ (e i K : Nat), i + e = l.length → e * 200 + 10 ≤ K → portagelaw3_HuffApart.l0 K l (huffCodes l) (i : Int) = some true
  | 0, i, K, he, hK => by
    obtain ⟨m, rfl⟩ : ∃ m, K = m + 1 := ⟨K - 1, by omega⟩
    rw [portagelaw3_HuffApart.l0, huffCodes_length, if_neg (by omega)]
  | e + 1, i, K, he, hK => by
    obtain ⟨m, rfl⟩ : ∃ m, K = m + 1 + 1 + 1 := ⟨K - 3, by omega⟩
    have hi : i < l.length := by omega
    obtain ⟨n, hn, hn15⟩ := len_nat0 hm i hi
    have hl := (huffMay_out hm).1
    have hw : wrap64 ((i : Int) + 1) = ((i + 1 : Nat) : Int) := by unfold wrap64; omega
    have ih := outer hL e (i + 1)
    have pw : ∀ q : Nat, q < 16 → wrap64 (2 ^ (mn (mx (q : Int) 0) 15).toNat) = 2 ^ q := by decide +kernel
    rw [portagelaw3_HuffApart.l0, huffCodes_length, if_pos (by omega), if_pos (by omega), if_pos (by omega), huffCodes_at l i hi, hn]
    by_cases h0 : n = 0
    · subst h0
      rw [code_zero hn]
      dsimp only
      rw [if_pos (show (0 : Int) = ((0 : Nat) : Int) from rfl), if_neg (by decide), show decide ((0 : Int) ≥ wrap64 (2 ^ (mn (mx 0 0) 15).toNat)) = false by decide +kernel, portagelaw3_HuffApart.j1, if_neg (by decide), huffCodes_length, if_pos (by omega), if_pos (by omega), huffCodes_at l i hi, code_zero hn, if_pos rfl, hw]
      exact ih _ (by omega) (by omega)
    · obtain ⟨c0, c1⟩ := code_room i hi n hn h0
      have ct := top l hr n hn15
      have hcd := cd_small l hl n (by omega)
      have hcb := cnt_bd l n
      rw [code_pos hn h0]
      dsimp only
      rw [if_pos rfl, if_neg (by omega), pw n (by omega), decide_eq_false (by omega), portagelaw3_HuffApart.j1, if_neg (by decide), huffCodes_length, if_pos (by omega), if_pos (by omega), huffCodes_at l i hi, code_pos hn h0]
      dsimp only
      rw [if_neg (by omega), find_at hm hr n (by omega) hn15 _ (by omega), if_pos (by omega), Option.bind_some, show cd l n + cnt (l.take i) n - cd l n = cnt (l.take i) n by omega, pos_inv l i n hi hn h0]
      dsimp only
      rw [if_pos rfl, if_pos rfl, num1, Option.bind_some, show ((0 : Int) != 0) = false by decide, portagelaw3_HuffApart.j2, if_neg (by decide)]
      exact inner hm hr hL e i n hi hn h0 hn15 (fun K hK => ih K (by omega) hK) l.length 0 m (by omega) (by omega)
end
end HA
open HA in
theorem HuffApart : portagelaw3_HuffApart.Pure := by
  intro l _ _ _
  refine ⟨12100, ?_⟩
  unfold portagelaw3_HuffApart.f
  rw [huffAwake (by decide), Option.bind_some, if_pos rfl]
  by_cases h1 : (l.length : Int) > 60
  · rw [if_pos h1]
  · rw [if_neg h1]
    cases hm : huffMay l with
    | false =>
      rw [codes_form hm, Option.bind_some, num1, Option.bind_some, if_neg (by decide)]
      rfl
    | true =>
      by_cases hr : room l 16 ≤ 32768
      · rw [codes_yes hm hr, Option.bind_some, num1, Option.bind_some, if_pos rfl, huffCodes_length, if_pos rfl]
        exact outer hm hr (by omega) l.length 0 12100 (by omega) (by omega)
      · rw [codes_over hm (by omega), Option.bind_some, num1, Option.bind_some, if_neg (by decide)]
        rfl
end Go.Proofs.Ytbifignggnfodaa.Pure
