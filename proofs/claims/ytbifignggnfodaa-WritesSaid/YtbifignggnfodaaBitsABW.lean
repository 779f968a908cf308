/- Chapter 1's laws: what they share. -/
import Derived.Test.YtbifignggnfodaaBitsWBW
import Derived.Test.YtbifignggnfodaaBW10
import Derived.Test.YtbifignggnfodaaBW1
namespace Go.Proofs.Ytbifignggnfodaa.BW
set_option linter.unusedVariables false
set_option linter.unusedSimpArgs false
open Go Go.RowKit Go.Proofs.YtbifignggnfodaaW.PrintWords Go.Proofs.YtbifignggnfodaaW.PrintLast Go.Proofs.YtbifignggnfodaaW.PrintMore Go.Proofs.Ytbifignggnfodaa.BitsM
theorem awake_true {k : Nat} (hk : 60 ≤ k) : portagelaw1_awake.f k = some true := at_rounds (g := fun k => portagelaw1_awake.f k) portagelaw1_awake.mono hk (by decide +kernel)
theorem num1 (n : Int) : portagelaw0_Num.f n = some n := rfl
theorem pow_lt (k : Nat) (hk : k ≤ 16) : 2 ^ k ≤ 65536 := by
  have : 2 ^ k ≤ 2 ^ 16 := Nat.pow_le_pow_right (by decide) (by omega)
  exact this
theorem maskW (k : Nat) (hk : k ≤ 16) : wrap64 ((shl .i64 1 (k : Int)) - 1) = ((2 ^ k - 1 : Nat) : Int) := by
  have hp := pow_lt k hk
  have h0 : 0 < 2 ^ k := Nat.pow_pos (by decide)
  have hs := shlN 1 k (by omega) (by rw [Nat.one_mul]; omega)
  rw [Nat.one_mul] at hs
  have hs : shl .i64 1 (k : Int) = ((2 ^ k : Nat) : Int) := hs
  rw [hs, w64 (by omega) (by omega)]
  omega
theorem mask (x : Int) (k : Nat) (hk : k ≤ 16) : Go.bits .and .i64 x (wrap64 ((shl .i64 1 (k : Int)) - 1)) = (((x % ((2 ^ k : Nat) : Int)).toNat : Nat) : Int) := by
  have h0 : 0 < 2 ^ k := Nat.pow_pos (by decide)
  rw [maskW k hk, Bits.and_mask x k (by omega)]
  have := Int.emod_nonneg x (show ((2 ^ k : Nat) : Int) ≠ 0 by omega)
  omega
theorem toNat_lt (x : Int) (k : Nat) : (x % ((2 ^ k : Nat) : Int)).toNat < 2 ^ k := by
  have h0 : 0 < 2 ^ k := Nat.pow_pos (by decide)
  generalize 2 ^ k = t at h0 ⊢
  have := Int.emod_lt_of_pos x (show (0 : Int) < (t : Int) by omega)
  have := Int.emod_nonneg x (show (t : Int) ≠ 0 by omega)
  omega
theorem mn_nat (a b : Nat) : mn (a : Int) (b : Int) = ((min a b : Nat) : Int) := by unfold mn; split <;> omega
theorem text_k (L : List Int) (n : Int) : bits_Writer_Text.f L n = some (strOfNums L, L, n) := rfl
theorem len_k (L : List Int) (n : Int) : bits_Writer_Len.f L n = some (n, L, n) := rfl
theorem at_k (s : ByteArray) (p : Int) : bits_Reader_At.f s p = some (p, s, p) := rfl
end Go.Proofs.Ytbifignggnfodaa.BW
