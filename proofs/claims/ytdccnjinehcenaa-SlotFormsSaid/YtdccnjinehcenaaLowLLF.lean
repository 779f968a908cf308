/- Low bytes of numbers, written and read. -/
import Derived.Test.YtdccnjinehcenaaLF3
import Derived.Test.YtdccnjinehcenaaLF5
import Derived.Test.YtdccnjinehcenaaBits
namespace Go.Proofs.Ytdccnjinehcenaa.LF
set_option linter.unusedVariables false
set_option linter.unusedSimpArgs false
open Go.RowKit Go.Proofs.YtdccnjinehcenaaW.PrintWords Go.Proofs.YtdccnjinehcenaaW.PrintLast Go.Proofs.YtdccnjinehcenaaW.PrintMore
theorem w64 {n : Int} (h : -9223372036854775808 ≤ n) (h' : n < 9223372036854775808) : wrap64 n = n := by unfold wrap64; omega
def lowB (x : Int) (i : Nat) : Int := shr .i64 x ((8 * i : Nat) : Int) % 256
/-- The n lowest bytes of x, the lowest first. -/
def lowL (x : Int) (n : Nat) : List Int := (List.range n).map (lowB x)
theorem lowL_length (x : Int) (n : Nat) : (lowL x n).length = n := by simp [lowL]
theorem low_l0 (x : Int) (n : Nat) (hn : n ≤ 8) : ∀ (d i : Nat), i + d = n → ∀ K, d + 1 ≤ K → extra_Low.l0 K x (lowL x i ++ List.replicate d 0) (n : Int) (i : Int) = some (strOfNums (lowL x n))
  | 0, i, hi, K, hK => by
    obtain ⟨m, rfl⟩ : ∃ m, K = m + 1 := ⟨K - 1, by omega⟩
    rw [extra_Low.l0, if_neg (by omega), List.replicate_zero, List.append_nil, show i = n from by omega]
  | d + 1, i, hi, K, hK => by
    obtain ⟨m, rfl⟩ : ∃ m, K = m + 1 := ⟨K - 1, by omega⟩
    have ih := low_l0 x n hn d (i + 1) (by omega) m (by omega)
    have hs : (lowL x i ++ List.replicate (d + 1) 0).set (i : Int).toNat (lowB x i) = lowL x (i + 1) ++ List.replicate d 0 := by
      rw [show ((i : Int)).toNat = i from by omega, List.set_append_right _ _ (by rw [lowL_length]; omega), lowL_length, Nat.sub_self, List.replicate_succ, List.set_cons_zero]
      simp [lowL, List.range_succ]
    rw [extra_Low.l0, if_pos (by omega), w64 (n := 8 * (i : Int)) (by omega) (by omega), if_pos (by omega), if_pos (by omega), if_pos (by rw [List.length_append, lowL_length, List.length_replicate]; omega),
      show (8 * (i : Int)) = ((8 * i : Nat) : Int) from by omega]
    show extra_Low.l0 m x ((lowL x i ++ List.replicate (d + 1) 0).set (i : Int).toNat (lowB x i)) _ _ = _
    rw [hs, w64 (by omega) (by omega), show (i : Int) + 1 = ((i + 1 : Nat) : Int) from by omega]
    exact ih
theorem low_k (x : Int) (n : Nat) (hn : n ≤ 8) {k : Nat} (hk : 10 ≤ k) : extra_Low.f k x (n : Int) = some (strOfNums (lowL x n)) := by
  unfold extra_Low.f
  rw [if_pos (by omega), if_pos (by omega), show ((n : Int)).toNat = n from by omega, Option.bind_some, List.length_replicate]
  exact low_l0 x n hn n 0 (by omega) k (by omega)
theorem strs_append (a b : List Int) : strOfNums (a ++ b) = strOfNums a ++ strOfNums b := by
  apply Go.WideShapes.bytes_inj
  rw [ByteArray.data_append, Array.toList_append, strOfNums_data, strOfNums_data, strOfNums_data, List.map_append]
def isBytes (l : List Int) : Prop := ∀ x ∈ l, 0 ≤ x ∧ x < 256
theorem bytesOf_str {l : List Int} (h : isBytes l) : bytesOf (strOfNums l) = l := by
  unfold bytesOf
  rw [strOfNums_data, List.map_map]
  conv => rhs; rw [← List.map_id l]
  refine List.map_congr_left fun x hx => ?_
  obtain ⟨h0, h1⟩ := h x hx
  show ((UInt8.ofNat x.toNat).toNat : Int) = x
  rw [UInt8.toNat_ofNat_of_lt' (show x.toNat < UInt8.size by show x.toNat < 256; omega)]
  omega
theorem str_take (l : List Int) (n : Nat) : (strOfNums l).extract 0 n = strOfNums (l.take n) := by
  apply Go.WideShapes.bytes_inj
  rw [ByteArray.data_extract, Array.toList_extract, List.extract_eq_take_drop, strOfNums_data, strOfNums_data, List.drop_zero, Nat.sub_zero, List.map_take]
theorem str_drop (l : List Int) (n : Nat) : (strOfNums l).extract n (strOfNums l).size = strOfNums (l.drop n) := by
  apply Go.WideShapes.bytes_inj
  rw [ByteArray.data_extract, Array.toList_extract, List.extract_eq_take_drop, strOfNums_data, strOfNums_data, strOfNums_size, List.map_drop]
  exact List.take_of_length_le (by simp)
theorem lowB_nat (X i : Nat) (hi : i < 8) : lowB (X : Int) i = ((X / 2 ^ (8 * i) % 256 : Nat) : Int) := by
  unfold lowB shr
  rw [Nat.min_eq_left (show ((8 * i : Nat) : Int).toNat ≤ IntKind.i64.bits by show ((8 * i : Nat) : Int).toNat ≤ 64; omega), show ((8 * i : Nat) : Int).toNat = 8 * i from by omega]
  simp
theorem lowL_bytes (x : Int) (n : Nat) : isBytes (lowL x n) := by
  intro y hy
  unfold lowL at hy
  obtain ⟨i, _, rfl⟩ := List.mem_map.mp hy
  unfold lowB
  omega
theorem num_l0 (X n : Nat) (hn : n ≤ 4) (r : ByteArray) (bad : Bool) : ∀ (d i : Nat), i + d = n → ∀ K, d + 1 ≤ K → extra_Taker_Num.l0 K ((X % 2 ^ (8 * i) : Nat) : Int) (lowL (X : Int) n) (n : Int) (i : Int) r bad = some (((X % 2 ^ (8 * n) : Nat) : Int), r, bad)
  | 0, i, hi, K, hK => by
    obtain ⟨m, rfl⟩ : ∃ m, K = m + 1 := ⟨K - 1, by omega⟩
    rw [extra_Taker_Num.l0, if_neg (by omega), show i = n from by omega]
  | d + 1, i, hi, K, hK => by
    obtain ⟨m, rfl⟩ : ∃ m, K = m + 1 := ⟨K - 1, by omega⟩
    have ih := num_l0 X n hn r bad d (i + 1) (by omega) m (by omega)
    have hl := lowL_length (X : Int) n
    have hr : rd (lowL (X : Int) n) (i : Int) = ((X / 2 ^ (8 * i) % 256 : Nat) : Int) := by
      rw [← lowB_nat X i (by omega)]
      unfold rd lowL
      rw [show ((i : Int)).toNat = i from by omega, List.getD_eq_getElem?_getD, List.getElem?_map, List.getElem?_range (by omega)]
      rfl
    have hb : X / 2 ^ (8 * i) % 256 < 256 := Nat.mod_lt _ (by decide)
    have hp : 2 ^ (8 * i) ≤ 16777216 := by
      have h24 : 2 ^ (8 * i) ≤ 2 ^ 24 := Nat.pow_le_pow_right (by decide) (show 8 * i ≤ 24 by omega)
      rwa [show (2 : Nat) ^ 24 = 16777216 from by decide] at h24
    have hp0 : 0 < 2 ^ (8 * i) := Nat.pow_pos (by decide)
    have ha : X % 2 ^ (8 * i) < 2 ^ (8 * i) := Nat.mod_lt _ hp0
    have hmul : X / 2 ^ (8 * i) % 256 * 2 ^ (8 * i) ≤ 255 * 16777216 := Nat.mul_le_mul (by omega) hp
    have hlt : X % 2 ^ (8 * i) + X / 2 ^ (8 * i) % 256 * 2 ^ (8 * i) < 9223372036854775808 := by
      generalize X / 2 ^ (8 * i) % 256 * 2 ^ (8 * i) = q at hmul ⊢
      generalize X % 2 ^ (8 * i) = p at ha ⊢
      generalize 2 ^ (8 * i) = t at ha hp
      omega
    have hs : shl .i64 (wrap64 ((X / 2 ^ (8 * i) % 256 : Nat) : Int)) (wrap64 (8 * (i : Int))) = ((X / 2 ^ (8 * i) % 256 * 2 ^ (8 * i) : Nat) : Int) := by
      rw [w64 (by omega) (by omega), w64 (by omega) (by omega)]
      unfold shl
      rw [Nat.min_eq_left (show (8 * (i : Int)).toNat ≤ IntKind.i64.bits by show (8 * (i : Int)).toNat ≤ 64; omega), show (8 * (i : Int)).toNat = 8 * i from by omega]
      have e : ((X / 2 ^ (8 * i) % 256 : Nat) : Int) * 2 ^ (8 * i) = ((X / 2 ^ (8 * i) % 256 * 2 ^ (8 * i) : Nat) : Int) := by simp
      rw [e]
      generalize X / 2 ^ (8 * i) % 256 * 2 ^ (8 * i) = q at hmul ⊢
      exact Bits.wrap_in (by omega) (by omega)
    rw [extra_Taker_Num.l0, if_pos (by omega), if_pos (by omega), if_pos (by omega), if_pos (by rw [w64 (by omega) (by omega)]; omega), hr, hs, Bits.or_add _ _ _ ha hlt, w64 (by omega) (by omega), show (i : Int) + 1 = ((i + 1 : Nat) : Int) from by omega]
    have e : X % 2 ^ (8 * i) + X / 2 ^ (8 * i) % 256 * 2 ^ (8 * i) = X % 2 ^ (8 * (i + 1)) := by
      rw [show 8 * (i + 1) = 8 * i + 8 from by omega, Nat.pow_add, Nat.mod_mul, Nat.mul_comm (X / 2 ^ (8 * i) % 256)]
    rw [e]
    exact ih
/-- A number's bytes ahead of a rest are read, and the rest stays. -/
theorem num_k (X n : Nat) (hn : n ≤ 4) (hX : X < 2 ^ (8 * n)) (r : List Int) (hr : r.length ≤ 1000) (bad : Bool) {k : Nat} (hk : 10 ≤ k) : extra_Taker_Num.f k (strOfNums (lowL (X : Int) n ++ r)) bad (n : Int) = some ((X : Int), strOfNums r, bad) := by
  unfold extra_Taker_Num.f extra_Taker_Text.f
  have hl := lowL_length (X : Int) n
  have hz : (strOfNums (lowL (X : Int) n ++ r)).size = n + r.length := by rw [strOfNums_size, List.length_append, hl]
  rw [if_neg (by omega), if_pos (by omega), if_pos (by omega), show ((n : Int)).toNat = n from by omega, Option.bind_some]
  dsimp only
  rw [str_take, str_drop, List.take_left' hl, List.drop_left' hl, strOfNums_size, if_pos (by omega), Option.bind_some, bytesOf_str (lowL_bytes _ _), hl]
  have := num_l0 X n hn (strOfNums r) bad n 0 (by omega) k (by omega)
  rw [Nat.mod_eq_of_lt hX] at this
  have e0 : ((X % 2 ^ (8 * 0) : Nat) : Int) = 0 := by simp [Nat.mod_one]
  rw [e0] at this
  exact this
end Go.Proofs.Ytdccnjinehcenaa.LF
