/- The reference's numbers as bytes, and back. -/
import Derived.Test.YtdccnjinehcenaaLowLLS
import Derived.Test.YtdccnjinehcenaaLS6
import Derived.Test.YtdccnjinehcenaaLS10
namespace Go.Proofs.Ytdccnjinehcenaa.LS
set_option linter.unusedVariables false
set_option linter.unusedSimpArgs false
open Go.RowKit Go.Proofs.YtdccnjinehcenaaW.PrintWords Go.Proofs.YtdccnjinehcenaaW.PrintLast Go.Proofs.YtdccnjinehcenaaW.PrintMore
theorem bytes_l0 (x : Int) (n : Nat) (hn : n ≤ 8) : ∀ (d i : Nat), i + d = n → ∀ K, d + 1 ≤ K → portageref10_Bytes.l0 K x (n : Int) (lowL x i) (i : Int) = some (strOfNums (lowL x n))
  | 0, i, hi, K, hK => by
    obtain ⟨m, rfl⟩ : ∃ m, K = m + 1 := ⟨K - 1, by omega⟩
    rw [portageref10_Bytes.l0, if_neg (by omega), show i = n from by omega]
  | d + 1, i, hi, K, hK => by
    obtain ⟨m, rfl⟩ : ∃ m, K = m + 1 := ⟨K - 1, by omega⟩
    have ih := bytes_l0 x n hn d (i + 1) (by omega) m (by omega)
    have hs : lowL x i ++ [lowB x i] = lowL x (i + 1) := by simp [lowL, List.range_succ]
    rw [portageref10_Bytes.l0, if_pos (by omega), w64 (n := 8 * (i : Int)) (by omega) (by omega), if_pos (by omega), if_pos (by rw [lowL_length]; omega),
      show (8 * (i : Int)) = ((8 * i : Nat) : Int) from by omega]
    show portageref10_Bytes.l0 m x (n : Int) (lowL x i ++ [lowB x i]) _ = _
    rw [hs, w64 (by omega) (by omega), show (i : Int) + 1 = ((i + 1 : Nat) : Int) from by omega]
    exact ih
theorem bytes_k (x : Int) (n : Nat) (hn : n ≤ 8) {k : Nat} (hk : 10 ≤ k) : portageref10_Bytes.f k x (n : Int) = some (strOfNums (lowL x n)) := by
  unfold portageref10_Bytes.f
  exact bytes_l0 x n hn n 0 (by omega) k (by omega)
theorem bt_low (X n i : Nat) (hi : i < n) : bt (strOfNums (lowL (X : Int) n)) (i : Int) = lowB (X : Int) i := by
  have hl := lowL_length (X : Int) n
  have hb := lowL_bytes (X : Int) n
  have e : (lowL (X : Int) n)[i]? = some (lowB (X : Int) i) := by
    unfold lowL
    rw [List.getElem?_map, List.getElem?_range hi]; rfl
  have hz : (strOfNums (lowL (X : Int) n)).size = n := by rw [strOfNums_size, hl]
  rw [(bt_at (strOfNums (lowL (X : Int) n)) (i : Int) (by omega)).symm]
  have h2 : (strOfNums (lowL (X : Int) n)).data.toList[i]? = some (UInt8.ofNat (lowB (X : Int) i).toNat) := by
    rw [strOfNums_data, List.getElem?_map, e]; rfl
  have hz2 : (strOfNums (lowL (X : Int) n)).data.toList.length = n := hz
  rw [List.getElem?_eq_getElem (by omega)] at h2
  injection h2 with h2
  have h3 : (strOfNums (lowL (X : Int) n))[(i : Int).toNat]'(by omega) = UInt8.ofNat (lowB (X : Int) i).toNat := h2
  have h4 : 0 ≤ lowB (X : Int) i ∧ lowB (X : Int) i < 256 := by unfold lowB; omega
  rw [h3, UInt8.toNat_ofNat_of_lt' (show (lowB (X : Int) i).toNat < UInt8.size by show (lowB (X : Int) i).toNat < 256; omega)]
  omega
theorem or_comm (a b : Int) : Go.bits .or .i64 a b = Go.bits .or .i64 b a := by
  show IntKind.i64.wrap ((BitVec.ofInt 64 a ||| BitVec.ofInt 64 b).toNat : Nat) = IntKind.i64.wrap ((BitVec.ofInt 64 b ||| BitVec.ofInt 64 a).toNat : Nat)
  rw [BitVec.or_comm]
theorem number_l0 (X n : Nat) (hn : n ≤ 4) (hX : X < 4294967296) : ∀ (i : Nat), i ≤ n → ∀ K, i + 1 ≤ K → portageref10_Number.l0 K (strOfNums (lowL (X : Int) n)) ((X / 2 ^ (8 * i) : Nat) : Int) ((i : Int) - 1) = some (X : Int)
  | 0, _, K, hK => by
    obtain ⟨q, rfl⟩ : ∃ q, K = q + 1 := ⟨K - 1, by omega⟩
    rw [portageref10_Number.l0, if_neg (by omega), Nat.mul_zero, Nat.pow_zero, Nat.div_one]
  | i + 1, hi, K, hK => by
    obtain ⟨q, rfl⟩ : ∃ q, K = q + 1 := ⟨K - 1, by omega⟩
    have hz : (strOfNums (lowL (X : Int) n)).size = n := by rw [strOfNums_size, lowL_length]
    have ih := number_l0 X n hn hX i (by omega) q (by omega)
    have hp0 : 0 < 2 ^ (8 * i) := Nat.pow_pos (by decide)
    have e : X / 2 ^ (8 * (i + 1)) = X / 2 ^ (8 * i) / 256 := by
      rw [show 8 * (i + 1) = 8 * i + 8 from by omega, Nat.pow_add, ← Nat.div_div_eq_div_mul]
    have hle : X / 2 ^ (8 * i) ≤ X := Nat.div_le_self _ _
    have hb := bt_low X n i (by omega)
    rw [lowB_nat X i (by omega)] at hb
    rw [e]
    generalize X / 2 ^ (8 * i) = Y at hle hb ih ⊢
    have ho := Bits.or_add (Y % 256) (Y / 256) 8 (by omega) (by omega)
    have hs : Y % 256 + Y / 256 * 2 ^ 8 = Y := by omega
    rw [hs] at ho
    have hq : (((i + 1 : Nat) : Int) - 1) = (i : Int) := by omega
    have hw : wrap64 (((Y / 256 : Nat) : Int) * 256) = ((Y / 256 * 2 ^ 8 : Nat) : Int) := by rw [w64 (by omega) (by omega)]; omega
    rw [portageref10_Number.l0, hq, if_pos (by omega), if_pos (by omega), if_pos (by omega), hb, hw, w64 (n := ((Y % 256 : Nat) : Int)) (by omega) (by omega), or_comm, ho, w64 (by omega) (by omega)]
    exact ih
theorem number_k (X n : Nat) (hn : n ≤ 4) (hX : X < 2 ^ (8 * n)) {k : Nat} (hk : 10 ≤ k) : portageref10_Number.f k (strOfNums (lowL (X : Int) n)) = some (X : Int) := by
  have h32 : X < 4294967296 := by
    have : 2 ^ (8 * n) ≤ 2 ^ 32 := Nat.pow_le_pow_right (by decide) (by omega)
    exact Nat.lt_of_lt_of_le hX this
  have := number_l0 X n hn h32 n (Nat.le_refl _) k (by omega)
  rw [Nat.div_eq_of_lt hX] at this
  unfold portageref10_Number.f
  rw [strOfNums_size, lowL_length, w64 (by omega) (by omega)]
  exact this
end Go.Proofs.Ytdccnjinehcenaa.LS
