/- Laws on Go's bit operations at 64 bits: a mask of low bits is a remainder; no program in sight. -/
import Derived.Laws.BitsLemmas
import Derived.Laws.BitsAllLaws
import Derived.RowKit
import Derived.IntWalk
namespace Go.Proofs.YtneogampbohfnaaDoor.Bits
open Go Go.RowKit
theorem wrap_in {x : Int} (h0 : 0 ≤ x) (h1 : x < 9223372036854775808) : IntKind.i64.wrap x = x := by
  rw [IntKind.wrap_i64]
  omega
theorem and_mask (n : Int) (m : Nat) (hm : m ≤ 62) : Go.bits .and .i64 n ((2 ^ m - 1 : Nat) : Int) = n % ((2 ^ m : Nat) : Int) := by
  have hp : 2 ^ m ≤ 2 ^ 62 := Nat.pow_le_pow_right (by decide) hm
  have h0 : 0 < 2 ^ m := Nat.pow_pos (by decide)
  have hb : (BitVec.ofInt 64 ((2 ^ m - 1 : Nat) : Int)).toNat = 2 ^ m - 1 := by
    rw [BitVec.toNat_ofInt]
    omega
  have key : (BitVec.ofInt 64 n &&& BitVec.ofInt 64 ((2 ^ m - 1 : Nat) : Int)).toNat = (n % ((2 ^ 64 : Nat) : Int)).toNat % 2 ^ m := by
    rw [BitVec.toNat_and, BitVec.toNat_ofInt, hb, Nat.and_two_pow_sub_one_eq_mod]
  show IntKind.i64.wrap ((BitVec.ofInt 64 n &&& BitVec.ofInt 64 ((2 ^ m - 1 : Nat) : Int)).toNat : Nat) = n % ((2 ^ m : Nat) : Int)
  rw [key]
  have hlt : (n % ((2 ^ 64 : Nat) : Int)).toNat % 2 ^ m < 2 ^ m := Nat.mod_lt _ h0
  rw [wrap_in (by omega) (by omega)]
  have hd : ((2 ^ m : Nat) : Int) ∣ ((2 ^ 64 : Nat) : Int) := Int.natCast_dvd_natCast.mpr (Nat.pow_dvd_pow 2 (by omega))
  rw [← Int.emod_emod_of_dvd n hd]
  have hn : 0 ≤ n % ((2 ^ 64 : Nat) : Int) := Int.emod_nonneg _ (by omega)
  generalize n % ((2 ^ 64 : Nat) : Int) = q at hn ⊢
  obtain ⟨p, rfl⟩ : ∃ p : Nat, q = (p : Int) := ⟨q.toNat, by omega⟩
  rw [Int.toNat_natCast]
  rfl
theorem and_16 (n : Int) : Go.bits .and .i64 n 65535 = n % 65536 := and_mask n 16 (by decide)
theorem and_10 (n : Int) : Go.bits .and .i64 n 1023 = n % 1024 := and_mask n 10 (by decide)
theorem and_2 (n : Int) : Go.bits .and .i64 n 3 = n % 4 := and_mask n 2 (by decide)
theorem and_8 (n : Int) : Go.bits .and .i64 n 255 = n % 256 := and_mask n 8 (by decide)
theorem and_4 (n : Int) : Go.bits .and .i64 n 15 = n % 16 := and_mask n 4 (by decide)
theorem and_3 (n : Int) : Go.bits .and .i64 n 7 = n % 8 := and_mask n 3 (by decide)
theorem and_20 (n : Int) : Go.bits .and .i64 n 1048575 = n % 1048576 := and_mask n 20 (by decide)
theorem and_1 (n : Int) : Go.bits .and .i64 n 1 = n % 2 := and_mask n 1 (by decide)
/-- Parts that do not overlap. -/
theorem or_add (a c m : Nat) (ha : a < 2 ^ m) (h : a + c * 2 ^ m < 9223372036854775808) : Go.bits .or .i64 (a : Int) ((c * 2 ^ m : Nat) : Int) = ((a + c * 2 ^ m : Nat) : Int) := by
  have key : (BitVec.ofInt 64 (a : Int) ||| BitVec.ofInt 64 ((c * 2 ^ m : Nat) : Int)).toNat = a + c * 2 ^ m := by
    rw [BitVec.toNat_or, BitVec.toNat_ofInt, BitVec.toNat_ofInt]
    have e1 : ((a : Int) % ((2 ^ 64 : Nat) : Int)).toNat = a := by omega
    have e2 : (((c * 2 ^ m : Nat) : Int) % ((2 ^ 64 : Nat) : Int)).toNat = c * 2 ^ m := by
      generalize c * 2 ^ m = q at h ⊢
      omega
    rw [e1, e2, Nat.or_comm, Nat.mul_comm, ← Nat.two_pow_add_eq_or_of_lt ha, Nat.add_comm]
  show IntKind.i64.wrap ((BitVec.ofInt 64 (a : Int) ||| BitVec.ofInt 64 ((c * 2 ^ m : Nat) : Int)).toNat : Nat) = ((a + c * 2 ^ m : Nat) : Int)
  rw [key]
  generalize a + c * 2 ^ m = q at h ⊢
  exact wrap_in (by omega) (by omega)
end Go.Proofs.YtneogampbohfnaaDoor.Bits
