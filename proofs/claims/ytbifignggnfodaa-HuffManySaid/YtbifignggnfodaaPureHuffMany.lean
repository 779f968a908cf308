import Derived.Test.YtbifignggnfodaaHuffLHU
import Derived.Test.YtbifignggnfodaaHuffWHU
import Derived.Test.YtbifignggnfodaaHU7
import Derived.Test.YtbifignggnfodaaBits
namespace Go.Proofs.Ytbifignggnfodaa.Pure
set_option linter.unusedVariables false
set_option linter.unusedSimpArgs false
open Go.RowKit Go.Proofs.Ytbifignggnfodaa.HU Go.Proofs.YtbifignggnfodaaW.PrintWords Go.Proofs.YtbifignggnfodaaW.PrintLast Go.Proofs.YtbifignggnfodaaW.PrintMore Go.Proofs.Ytbifignggnfodaa.HuffM
namespace HM
theorem shl_one (n : Nat) (h : n ≤ 15) : wrap64 ((shl .i64 1 (n : Int)) - 1) = ((2 ^ n - 1 : Nat) : Int) := by
  have : ∀ m : Nat, m < 16 → wrap64 ((shl .i64 1 (m : Int)) - 1) = ((2 ^ m - 1 : Nat) : Int) := by decide +kernel
  exact this n (by omega)
theorem shr_at (a : Int) (n : Nat) (h : n ≤ 15) : shr .i64 a (n : Int) = a / 2 ^ n := by
  unfold shr
  rw [Int.toNat_natCast, Nat.min_eq_left (by show n ≤ 64; omega)]
/-- The first bits of fifteen. -/
def bits15 (a : Int) : Int := a % 32768
theorem first_bits (a : Int) (n : Nat) (h1 : 1 ≤ n) (h : n ≤ 15) : Go.bits .and .i64 (shr .i64 a ((15 - n : Nat) : Int)) (wrap64 ((shl .i64 1 (n : Int)) - 1)) = bits15 a / 2 ^ (15 - n) := by
  rw [shl_one n h, shr_at a (15 - n) (by omega), Bits.and_mask _ n (by omega)]
  unfold bits15
  match n, h1, h with
  | 1, _, _ => simp; omega
  | 2, _, _ => simp; omega
  | 3, _, _ => simp; omega
  | 4, _, _ => simp; omega
  | 5, _, _ => simp; omega
  | 6, _, _ => simp; omega
  | 7, _, _ => simp; omega
  | 8, _, _ => simp; omega
  | 9, _, _ => simp; omega
  | 10, _, _ => simp; omega
  | 11, _, _ => simp; omega
  | 12, _, _ => simp; omega
  | 13, _, _ => simp; omega
  | 14, _, _ => simp; omega
  | 15, _, _ => simp
/-- Just the rows of bits in a length's room begin with a code of that length. -/
theorem inside (l : List Int) (n : Nat) (hn : n ≤ 15) (x : Int) : (cd l n ≤ x / 2 ^ (15 - n) ∧ x / 2 ^ (15 - n) - cd l n < cnt l n) ↔ (room l n ≤ x ∧ x < room l (n + 1)) := by
  have hp := pow_pos' (15 - n)
  have hc := cd_room l n hn
  have hs : room l (n + 1) = (cd l n + cnt l n) * 2 ^ (15 - n) := by
    show room l n + cnt l n * 2 ^ (15 - n) = _
    rw [← hc, Int.add_mul]
  have h1 : cd l n ≤ x / 2 ^ (15 - n) ↔ room l n ≤ x := by rw [← hc]; exact Int.le_ediv_iff_mul_le hp
  have h2 : x / 2 ^ (15 - n) < cd l n + cnt l n ↔ x < room l (n + 1) := by rw [hs]; exact Int.ediv_lt_iff_lt_mul hp
  constructor
  · rintro ⟨a, b⟩
    exact ⟨h1.1 a, h2.1 (by omega)⟩
  · rintro ⟨a, b⟩
    have := h2.2 b
    exact ⟨h1.2 a, by omega⟩
theorem loop (l : List Int) (a : Int) (hm : huffMay l = true) (hr : room l 16 = 32768) : ∀ (d n K : Nat), n + d = 16 → 1 ≤ n → 2 * d + 20 ≤ K → portagelaw3_HuffMany.l0 K l a (if bits15 a < room l n then 1 else 0) (n : Int) = some true
  | 0, n, K, hd, h1, hK => by
    obtain ⟨m, rfl⟩ : ∃ m, K = m + 1 := ⟨K - 1, by omega⟩
    obtain rfl : n = 16 := by omega
    rw [portagelaw3_HuffMany.l0, if_neg (by omega), hr, if_pos (by unfold bits15; omega)]
    rfl
  | d + 1, n, K, hd, h1, hK => by
    obtain ⟨m, rfl⟩ : ∃ m, K = m + 1 := ⟨K - 1, by omega⟩
    obtain ⟨q, rfl⟩ : ∃ q, m = q + 1 := ⟨m - 1, by omega⟩
    have hn : n ≤ 15 := by omega
    have ew : wrap64 (15 - (n : Int)) = ((15 - n : Nat) : Int) := by unfold wrap64; omega
    have en : wrap64 ((n : Int) + 1) = ((n + 1 : Nat) : Int) := by unfold wrap64; omega
    have hx0 : 0 ≤ bits15 a := by unfold bits15; omega
    have hx1 : bits15 a < 32768 := by unfold bits15; omega
    have hp := pow_pos' (15 - n)
    have hv0 : 0 ≤ bits15 a / 2 ^ (15 - n) := Int.ediv_nonneg hx0 (Int.le_of_lt hp)
    have hv1 : bits15 a / 2 ^ (15 - n) ≤ bits15 a := Int.ediv_le_self _ hx0
    have hin := inside l n hn (bits15 a)
    have hst := room_step l n
    have ih := loop l a hm hr d (n + 1) q (by omega) (by omega) (by omega)
    rw [portagelaw3_HuffMany.l0, if_pos (by omega), ew, if_pos (by omega), if_pos (by omega), first_bits a n h1 hn, find_at hm (by omega) n h1 hn _ (by omega), Option.bind_some]
    by_cases hf : room l n ≤ bits15 a ∧ bits15 a < room l (n + 1)
    · rw [if_pos (hin.2 hf)]
      obtain ⟨c1, c2⟩ := hin.2 hf
      obtain ⟨v, hv⟩ : ∃ v : Nat, bits15 a / 2 ^ (15 - n) - cd l n = (v : Int) := ⟨(bits15 a / 2 ^ (15 - n) - cd l n).toNat, by omega⟩
      have hpl := pos_length l n
      obtain ⟨i, hi, e1, e2, e3⟩ := huffPos_at l n v (by omega)
      rw [hv, e1]
      dsimp only
      rw [num1, Option.bind_some, if_pos rfl, if_pos rfl, if_neg (show ¬ (i : Int) < 0 by omega), if_neg (show ¬ (i : Int) ≥ (l.length : Int) by omega), if_pos (show 0 ≤ (i : Int) by omega), if_pos (show (i : Int) < (l.length : Int) by omega), e2]
      rw [portagelaw3_HuffMany.j2, if_neg (by simp), if_pos rfl, en, if_neg (show ¬ bits15 a < room l n by omega)]
      rw [if_pos hf.2] at ih
      rw [show wrap64 (0 + 1) = 1 by decide +kernel]
      exact ih
    · rw [if_neg (fun h => hf (hin.1 h))]
      dsimp only
      rw [num1, Option.bind_some, if_pos rfl, if_neg (by decide)]
      rw [portagelaw3_HuffMany.j2, if_neg (by decide), if_neg (by decide), en]
      by_cases h2 : bits15 a < room l n
      · rw [if_pos h2]
        rw [if_pos (by omega)] at ih
        exact ih
      · rw [if_neg h2]
        rw [if_neg (by omega)] at ih
        exact ih
end HM
open HM in
theorem HuffMany : portagelaw3_HuffMany.Pure := by
  intro l a _ _ _ _
  refine ⟨60, ?_⟩
  unfold portagelaw3_HuffMany.f
  rw [huffAwake (by decide), Option.bind_some, if_pos rfl]
  have skip : portagelaw3_HuffMany.j0 60 l a true = some true := by rw [portagelaw3_HuffMany.j0, if_pos rfl]
  cases hm : huffMay l with
  | false =>
    rw [check_form hm, Option.bind_some, num1, Option.bind_some, if_neg (by decide)]
    exact skip
  | true =>
    rw [check_yes hm, Option.bind_some, num1, Option.bind_some]
    by_cases h1 : room l 16 > 32768
    · rw [if_pos h1, if_neg (by decide)]
      exact skip
    · rw [if_neg h1]
      by_cases h2 : room l 16 < 32768
      · rw [if_pos h2, if_neg (by decide)]
        exact skip
      · rw [if_neg h2, if_pos rfl]
        by_cases h3 : (l.length : Int) > 40
        · rw [decide_eq_true h3]
          exact skip
        · rw [decide_eq_false h3, portagelaw3_HuffMany.j0, if_neg (by decide)]
          have := loop l a hm (by omega) 15 1 59 (by omega) (by omega) (by omega)
          have e : (if bits15 a < room l 1 then (1 : Int) else 0) = 0 := if_neg (by show ¬ bits15 a < 0 + 0 * _; unfold bits15; omega)
          rw [e] at this
          exact this
end Go.Proofs.Ytbifignggnfodaa.Pure
