/- Codes by lengths, as numbers: how much room lengths take, where a length's codes begin; what is told of lengths, codes, and finding; no program in sight. -/
import Derived.Test.YtbifignggnfodaaHF4
import Derived.Test.YtbifignggnfodaaHF3
namespace Go.Proofs.Ytbifignggnfodaa.HF
set_option linter.unusedVariables false
set_option linter.unusedSimpArgs false
open Go.RowKit Go.Proofs.YtbifignggnfodaaW.PrintWords Go.Proofs.YtbifignggnfodaaW.PrintLast Go.Proofs.YtbifignggnfodaaW.PrintMore Go.Proofs.Ytbifignggnfodaa.HuffM
/-- The room below a length, of 32768. -/
def room (l : List Int) : Nat → Int
  | 0 => 0
  | k + 1 => room l k + cnt l k * 2 ^ (15 - k)
theorem two_pow (k : Nat) (h : k < 15) : (2 : Int) ^ (15 - k) = 2 * 2 ^ (15 - (k + 1)) := by
  rw [show 15 - k = (15 - (k + 1)) + 1 by omega, Int.pow_succ, Int.mul_comm]
theorem cd_room (l : List Int) : ∀ k : Nat, k ≤ 15 → cd l k * 2 ^ (15 - k) = room l k
  | 0, _ => by simp [cd, room]
  | k + 1, h => by
    have ih := cd_room l k (by omega)
    have hp := two_pow k (by omega)
    show (cd l k + cnt l k) * 2 * 2 ^ (15 - (k + 1)) = room l k + cnt l k * 2 ^ (15 - k)
    rw [← ih, Int.mul_assoc, ← hp, Int.add_mul]
theorem lft_room (l : List Int) : ∀ k : Nat, k ≤ 15 → lft l k * 2 ^ (15 - k) = 32768 - room l (k + 1)
  | 0, _ => by simp [lft, room, cnt]
  | k + 1, h => by
    have ih := lft_room l k (by omega)
    have hp := two_pow k (by omega)
    show (lft l k * 2 - cnt l (k + 1)) * 2 ^ (15 - (k + 1)) = 32768 - (room l (k + 1) + cnt l (k + 1) * 2 ^ (15 - (k + 1)))
    rw [Int.sub_mul, Int.mul_assoc, ← hp, ih]
    omega
theorem lft15 (l : List Int) : lft l 15 = 32768 - room l 16 := by
  have := lft_room l 15 (by omega)
  simpa using this
theorem pow_pos' (k : Nat) : (0 : Int) < 2 ^ k := by
  have : 0 < 2 ^ k := Nat.two_pow_pos k
  exact_mod_cast this
theorem room_step (l : List Int) (k : Nat) : room l k ≤ room l (k + 1) := by
  show room l k ≤ room l k + cnt l k * 2 ^ (15 - k)
  have h1 := (cnt_bd l k).1
  have h2 := pow_pos' (15 - k)
  have := Int.mul_nonneg h1 (Int.le_of_lt h2)
  omega
theorem room_mono (l : List Int) (k : Nat) : ∀ d : Nat, room l k ≤ room l (k + d)
  | 0 => Int.le_refl _
  | d + 1 => Int.le_trans (room_mono l k d) (room_step l (k + d))
theorem room_le (l : List Int) {k m : Nat} (h : k ≤ m) : room l k ≤ room l m := by
  have := room_mono l k (m - k)
  rwa [show k + (m - k) = m by omega] at this
theorem num1 (n : Int) : portagelaw0_Num.f n = some n := rfl
/-- May not be; too much. -/
theorem codes_form {l : List Int} (h : huffMay l = false) : huff_Codes.f l = some ([], 300) := by unfold huff_Codes.f; rw [if_pos h]
theorem codes_over {l : List Int} (h : huffMay l = true) (h2 : room l 16 > 32768) : huff_Codes.f l = some ([], 301) := by
  unfold huff_Codes.f
  rw [if_neg (by rw [h]; decide), if_pos (by rw [lft15]; omega)]
theorem codes_yes {l : List Int} (h : huffMay l = true) (h2 : room l 16 ≤ 32768) : huff_Codes.f l = some (huffCodes l, 0) := by
  unfold huff_Codes.f
  rw [if_neg (by rw [h]; decide), if_neg (by rw [lft15]; omega)]
theorem check_form {l : List Int} (h : huffMay l = false) : huff_Check.f l = some 300 := by unfold huff_Check.f huffNum; rw [if_pos h]
theorem check_yes {l : List Int} (h : huffMay l = true) : huff_Check.f l = some (if room l 16 > 32768 then 301 else if room l 16 < 32768 then 302 else 0) := by
  unfold huff_Check.f huffNum
  rw [if_neg (by rw [h]; decide), lft15]
  congr 1
  by_cases h1 : room l 16 > 32768
  · rw [if_pos (by omega), if_pos h1]
  · rw [if_neg (by omega), if_neg h1]
    by_cases h2 : room l 16 < 32768
    · rw [if_pos (by omega), if_pos h2]
    · rw [if_neg (by omega), if_neg h2]
theorem find_form {l : List Int} (h : huffMay l = false) (b v : Int) : huff_Find.f l b v = some (0, false, 300) := by unfold huff_Find.f; rw [if_pos h]
theorem find_over {l : List Int} (h : huffMay l = true) (h2 : room l 16 > 32768) (b v : Int) : huff_Find.f l b v = some (0, false, 301) := by
  unfold huff_Find.f
  rw [if_neg (by rw [h]; decide), if_pos (by rw [lft15]; omega)]
/-- What is found at a length and a value. -/
theorem find_at {l : List Int} (h : huffMay l = true) (h2 : room l 16 ≤ 32768) (n : Nat) (h1 : 1 ≤ n) (hn : n ≤ 15) (v : Int) (hv : -9223372036854775808 ≤ v ∧ v ≤ 9223372036854775807) :
    huff_Find.f l n v = some (if cd l n ≤ v ∧ v - cd l n < cnt l n then (rd (pos l n) (v - cd l n), true, 0) else (0, false, 0)) := by
  have hl := (huffMay_out h).1
  have hc := cd_small l hl n (by omega)
  have hk := cnt_bd l n
  unfold huff_Find.f
  rw [if_neg (by rw [h]; decide), if_neg (by rw [lft15]; omega), if_neg (by omega), if_neg (by omega), Int.toNat_natCast]
  by_cases e1 : v < cd l n
  · rw [if_pos e1, if_neg (by omega)]
  · have hw : wrap64 (v - cd l n) = v - cd l n := by unfold wrap64; omega
    rw [if_neg e1, hw]
    by_cases e2 : v - cd l n ≥ cnt l n
    · rw [if_pos e2, if_neg (by omega)]
    · rw [if_neg e2, if_pos (by omega), if_pos (by omega)]
theorem find_far {l : List Int} (h : huffMay l = true) (h2 : room l 16 ≤ 32768) (b v : Int) (hb : b < 1 ∨ b > 15) : huff_Find.f l b v = some (0, false, 0) := by
  unfold huff_Find.f
  rw [if_neg (by rw [h]; decide), if_neg (by rw [lft15]; omega)]
  by_cases e1 : b < 1
  · rw [if_pos e1]
  · rw [if_neg e1, if_pos (by omega)]
/-- A symbol's code, in room: it begins where the ones ahead of it end. -/
theorem code_room {l : List Int} (i : Nat) (hi : i < l.length) (n : Nat) (hn : rd l (i : Int) = (n : Int)) (h0 : n ≠ 0) : 0 ≤ cnt (l.take i) n ∧ cnt (l.take i) n < cnt l n := ⟨(cnt_bd _ _).1, huffCnt_lt l i n hi hn h0⟩
theorem huffCodes_at (l : List Int) (i : Nat) (hi : i < l.length) : rd_T43 (huffCodes l) (i : Int) = huffCode l i := by
  unfold rd_T43 huffCodes
  rw [Int.toNat_natCast, List.getD_eq_getElem?_getD, List.getElem?_map, List.getElem?_range hi]
  rfl
theorem huffCodes_length (l : List Int) : (huffCodes l).length = l.length := by unfold huffCodes; simp
theorem u64_tmod (x : Int) (m : Nat) (hm : 0 < m) : ∃ i : Nat, i < m ∧ Int.tmod (IntKind.u64.wrap x) (m : Int) = (i : Int) := by
  have h0 : 0 ≤ IntKind.u64.wrap x := by rw [IntKind.wrap_u64]; omega
  rw [Int.tmod_eq_emod_of_nonneg h0]
  have h1 := Int.emod_nonneg (IntKind.u64.wrap x) (show (m : Int) ≠ 0 by omega)
  have h2 := Int.emod_lt_of_pos (IntKind.u64.wrap x) (show (0 : Int) < (m : Int) by omega)
  exact ⟨((IntKind.u64.wrap x) % (m : Int)).toNat, by omega, by omega⟩
theorem w64' {x : Int} (h1 : -9223372036854775808 ≤ x) (h2 : x ≤ 9223372036854775807) : wrap64 x = x := by unfold wrap64; omega
end Go.Proofs.Ytbifignggnfodaa.HF
