/- Chapter 12 over plain lists: what 'Num' and 'Get' read. -/
import Derived.Test.YtneogampbohfnaaDoorExtraLZG
import Derived.Test.YtneogampbohfnaaDoorZG0
import Derived.Test.YtneogampbohfnaaDoorZG7
import Derived.Test.YtneogampbohfnaaDoorBits
namespace Go.Proofs.YtneogampbohfnaaDoor.ZG
set_option linter.unusedVariables false
set_option linter.unusedSimpArgs false
open Go.RowKit Go.Proofs.YtneogampbohfnaaDoorW.PrintWords Go.Proofs.YtneogampbohfnaaDoorW.PrintLast Go.Proofs.YtneogampbohfnaaDoorW.PrintMore
def isBytes (l : List Int) : Prop := ∀ x ∈ l, 0 ≤ x ∧ x < 256
theorem bytesOf_str {l : List Int} (h : isBytes l) : bytesOf (strOfNums l) = l := by
  unfold bytesOf
  rw [strOfNums_data, List.map_map]
  conv => rhs; rw [← List.map_id l]
  refine List.map_congr_left fun x hx => ?_
  obtain ⟨h0, h1⟩ := h x hx
  show ((UInt8.ofNat x.toNat).toNat : Int) = x
  rw [UInt8.toNat_ofNat_of_lt' (show x.toNat < UInt8.size by show x.toNat < 256; omega)]
  omega
theorem str_take (l : List Int) (n : Nat) : (strOfNums l).extract 0 n = strOfNums (l.take n) := by
  apply Go.WideShapes.bytes_inj
  rw [ByteArray.data_extract, Array.toList_extract, List.extract_eq_take_drop, strOfNums_data, strOfNums_data, List.drop_zero, Nat.sub_zero, List.map_take]
theorem str_drop (l : List Int) (n : Nat) : (strOfNums l).extract n (strOfNums l).size = strOfNums (l.drop n) := by
  apply Go.WideShapes.bytes_inj
  rw [ByteArray.data_extract, Array.toList_extract, List.extract_eq_take_drop, strOfNums_data, strOfNums_data, strOfNums_size, List.map_drop]
  exact List.take_of_length_le (by simp)
theorem lowB_nat (X i : Nat) (hi : i < 8) : lowB (X : Int) i = ((X / 2 ^ (8 * i) % 256 : Nat) : Int) := by
  unfold lowB shr
  rw [Nat.min_eq_left (show ((8 * i : Nat) : Int).toNat ≤ IntKind.i64.bits by show ((8 * i : Nat) : Int).toNat ≤ 64; omega), show ((8 * i : Nat) : Int).toNat = 8 * i from by omega]
  simp
theorem lowL_bytes (x : Int) (n : Nat) : isBytes (lowL x n) := by
  intro y hy
  unfold lowL at hy
  obtain ⟨i, _, rfl⟩ := List.mem_map.mp hy
  unfold lowB
  omega
theorem num_l0 (X n : Nat) (hn : n ≤ 4) (r : ByteArray) (bad : Bool) : ∀ (d i : Nat), i + d = n → ∀ K, d + 1 ≤ K → extra_Taker_Num.l0 K ((X % 2 ^ (8 * i) : Nat) : Int) (lowL (X : Int) n) (n : Int) (i : Int) r bad = some (((X % 2 ^ (8 * n) : Nat) : Int), r, bad)
  | 0, i, hi, K, hK => by
    obtain ⟨m, rfl⟩ : ∃ m, K = m + 1 := ⟨K - 1, by omega⟩
    rw [extra_Taker_Num.l0, if_neg (by omega), show i = n from by omega]
  | d + 1, i, hi, K, hK => by
    obtain ⟨m, rfl⟩ : ∃ m, K = m + 1 := ⟨K - 1, by omega⟩
    have ih := num_l0 X n hn r bad d (i + 1) (by omega) m (by omega)
    have hl := lowL_length (X : Int) n
    have hr : rd (lowL (X : Int) n) (i : Int) = ((X / 2 ^ (8 * i) % 256 : Nat) : Int) := by
      rw [← lowB_nat X i (by omega)]
      unfold rd lowL
      rw [show ((i : Int)).toNat = i from by omega, List.getD_eq_getElem?_getD, List.getElem?_map, List.getElem?_range (by omega)]
      rfl
    have hb : X / 2 ^ (8 * i) % 256 < 256 := Nat.mod_lt _ (by decide)
    have hp : 2 ^ (8 * i) ≤ 16777216 := by
      have h24 : 2 ^ (8 * i) ≤ 2 ^ 24 := Nat.pow_le_pow_right (by decide) (show 8 * i ≤ 24 by omega)
      rwa [show (2 : Nat) ^ 24 = 16777216 from by decide] at h24
    have hp0 : 0 < 2 ^ (8 * i) := Nat.pow_pos (by decide)
    have ha : X % 2 ^ (8 * i) < 2 ^ (8 * i) := Nat.mod_lt _ hp0
    have hmul : X / 2 ^ (8 * i) % 256 * 2 ^ (8 * i) ≤ 255 * 16777216 := Nat.mul_le_mul (by omega) hp
    have hlt : X % 2 ^ (8 * i) + X / 2 ^ (8 * i) % 256 * 2 ^ (8 * i) < 9223372036854775808 := by
      generalize X / 2 ^ (8 * i) % 256 * 2 ^ (8 * i) = q at hmul ⊢
      generalize X % 2 ^ (8 * i) = p at ha ⊢
      generalize 2 ^ (8 * i) = t at ha hp
      omega
    have hs : shl .i64 (wrap64 ((X / 2 ^ (8 * i) % 256 : Nat) : Int)) (wrap64 (8 * (i : Int))) = ((X / 2 ^ (8 * i) % 256 * 2 ^ (8 * i) : Nat) : Int) := by
      rw [w64 (by omega) (by omega), w64 (by omega) (by omega)]
      unfold shl
      rw [Nat.min_eq_left (show (8 * (i : Int)).toNat ≤ IntKind.i64.bits by show (8 * (i : Int)).toNat ≤ 64; omega), show (8 * (i : Int)).toNat = 8 * i from by omega]
      have e : ((X / 2 ^ (8 * i) % 256 : Nat) : Int) * 2 ^ (8 * i) = ((X / 2 ^ (8 * i) % 256 * 2 ^ (8 * i) : Nat) : Int) := by simp
      rw [e]
      generalize X / 2 ^ (8 * i) % 256 * 2 ^ (8 * i) = q at hmul ⊢
      exact Bits.wrap_in (by omega) (by omega)
    rw [extra_Taker_Num.l0, if_pos (by omega), if_pos (by omega), if_pos (by omega), if_pos (by rw [w64 (by omega) (by omega)]; omega), hr, hs, Bits.or_add _ _ _ ha hlt, w64 (by omega) (by omega), show (i : Int) + 1 = ((i + 1 : Nat) : Int) from by omega]
    have e : X % 2 ^ (8 * i) + X / 2 ^ (8 * i) % 256 * 2 ^ (8 * i) = X % 2 ^ (8 * (i + 1)) := by
      rw [show 8 * (i + 1) = 8 * i + 8 from by omega, Nat.pow_add, Nat.mod_mul, Nat.mul_comm (X / 2 ^ (8 * i) % 256)]
    rw [e]
    exact ih
/-- A number's bytes ahead of a rest are read, and the rest stays. -/
theorem num_k (X n : Nat) (hn : n ≤ 4) (hX : X < 2 ^ (8 * n)) (r : List Int) (hr : r.length ≤ 1000) (bad : Bool) {k : Nat} (hk : 10 ≤ k) : extra_Taker_Num.f k (strOfNums (lowL (X : Int) n ++ r)) bad (n : Int) = some ((X : Int), strOfNums r, bad) := by
  unfold extra_Taker_Num.f extra_Taker_Text.f
  have hl := lowL_length (X : Int) n
  have hz : (strOfNums (lowL (X : Int) n ++ r)).size = n + r.length := by rw [strOfNums_size, List.length_append, hl]
  rw [if_neg (by omega), if_pos (by omega), if_pos (by omega), show ((n : Int)).toNat = n from by omega, Option.bind_some]
  dsimp only
  rw [str_take, str_drop, List.take_left' hl, List.drop_left' hl, strOfNums_size, if_pos (by omega), Option.bind_some, bytesOf_str (lowL_bytes _ _), hl]
  have := num_l0 X n hn (strOfNums r) bad n 0 (by omega) k (by omega)
  rw [Nat.mod_eq_of_lt hX] at this
  have e0 : ((X % 2 ^ (8 * 0) : Nat) : Int) = 0 := by simp [Nat.mod_one]
  rw [e0] at this
  exact this
/-- Any text: some number is read. -/
theorem num_any0 (y : List Int) (hy : y.length ≤ 1000) (r : ByteArray) (bad : Bool) : ∀ (d i : Nat) (acc : Int), i + d = y.length → ∀ K, d + 1 ≤ K → ∃ x, extra_Taker_Num.l0 K acc y (y.length : Int) (i : Int) r bad = some (x, r, bad)
  | 0, i, acc, hi, K, hK => by
    obtain ⟨m, rfl⟩ : ∃ m, K = m + 1 := ⟨K - 1, by omega⟩
    exact ⟨acc, by rw [extra_Taker_Num.l0, if_neg (by omega)]⟩
  | d + 1, i, acc, hi, K, hK => by
    obtain ⟨m, rfl⟩ : ∃ m, K = m + 1 := ⟨K - 1, by omega⟩
    obtain ⟨x, hx⟩ := num_any0 y hy r bad d (i + 1) (Go.bits .or .i64 acc (shl .i64 (wrap64 (rd y (i : Int))) (wrap64 (8 * (i : Int))))) (by omega) m (by omega)
    refine ⟨x, ?_⟩
    rw [extra_Taker_Num.l0, if_pos (by omega), if_pos (by omega), if_pos (by omega), if_pos (by rw [w64 (by omega) (by omega)]; omega), w64 (n := (i : Int) + 1) (by omega) (by omega), show (i : Int) + 1 = ((i + 1 : Nat) : Int) from by omega]
    exact hx
theorem text_any (s : ByteArray) (bad : Bool) (n : Nat) : ∃ t r b, extra_Taker_Text.f s bad (n : Int) = some (t, r, b) ∧ t.size ≤ n := by
  unfold extra_Taker_Text.f
  by_cases h : (n : Int) > (s.size : Int)
  · rw [if_pos h, if_pos (by omega), if_pos (by omega)]
    exact ⟨_, _, _, rfl, by simp [ByteArray.size_extract]⟩
  · rw [if_neg h, if_pos (by omega), if_pos (by omega)]
    exact ⟨_, _, _, rfl, by rw [ByteArray.size_extract]; omega⟩
theorem num_any (s : ByteArray) (bad : Bool) (n : Nat) (hn : n ≤ 4) {k : Nat} (hk : 10 ≤ k) : ∃ x r b, extra_Taker_Num.f k s bad (n : Int) = some (x, r, b) := by
  obtain ⟨t, r, b, h, ht⟩ := text_any s bad n
  have hl : (bytesOf t).length = t.size := bytesOf_length t
  obtain ⟨x, hx⟩ := num_any0 (bytesOf t) (by omega) r b (bytesOf t).length 0 0 (by omega) k (by omega)
  refine ⟨x, r, b, ?_⟩
  unfold extra_Taker_Num.f
  rw [h, Option.bind_some]
  dsimp only
  rw [if_pos (by omega), Option.bind_some]
  exact hx
/-- What 'Get' answers once the numbers are read. -/
def fin (s : ByteArray) (gone : Bool) (v : List Int) (stamp node : Int) : ByteArray × Bool × List Int × Int × Int × Int × ByteArray × Int × Int × Int :=
  if mayE v stamp node = true ∧ (strOfNums (putL v stamp node gone)).toList = s.toList then (⟨#[]⟩, gone, v, stamp, node, 0, ⟨#[]⟩, 0, 0, 0) else (⟨#[]⟩, false, [], 0, 0, 0, ⟨#[]⟩, 0, 0, 1200)
theorem get_tail (s : ByteArray) (v : List Int) (r1 r2 r3 r4 : ByteArray) (b1 b2 b3 b4 : Bool) (stamp node g : Int) {K : Nat} (hK : 50 ≤ K) (h1 : extra_Taker_Num.f K r1 b1 4 = some (stamp, r2, b2)) (h2 : extra_Taker_Num.f K r2 b2 1 = some (node, r3, b3)) (h3 : extra_Taker_Num.f K r3 b3 1 = some (g, r4, b4)) :
    extra_Get.l0 (K + 1) s 4 r1 b1 ⟨#[]⟩ false v 0 0 0 ⟨#[]⟩ 0 0 = some (fin s (g == 1) v stamp node) := by
  rw [extra_Get.l0, if_neg (by omega), h1, Option.bind_some]
  dsimp only
  rw [h2, Option.bind_some]
  dsimp only
  rw [h3, Option.bind_some]
  dsimp only
  rw [put_k _ _ _ _ _ _ _ _ _ (by omega), Option.bind_some]
  unfold fin
  by_cases hm : mayE v stamp node = true
  · rw [if_pos hm]
    dsimp only
    rw [if_pos rfl]
    by_cases ht : (strOfNums (putL v stamp node (g == 1))).toList = s.toList
    · rw [if_pos ht, if_pos ⟨hm, ht⟩]
    · rw [if_neg ht, if_neg (fun h => ht h.2)]
  · rw [if_neg hm]
    dsimp only
    rw [if_neg (by omega), if_neg (fun h => hm h.1)]
theorem get_any (s : ByteArray) {k : Nat} (hk : 100 ≤ k) : ∃ gone v stamp node, extra_Get.f k s = some (fin s gone v stamp node) := by
  have hl : ∀ (d i : Nat) (v : List Int) (r : ByteArray) (b : Bool), i + d = 4 → v.length = i → ∀ K, 60 + d ≤ K → ∃ gone v' stamp node, extra_Get.l0 K s (i : Int) r b ⟨#[]⟩ false v 0 0 0 ⟨#[]⟩ 0 0 = some (fin s gone v' stamp node) := by
    intro d
    induction d with
    | zero =>
      intro i v r b hi hv K hK
      obtain ⟨q, rfl⟩ : ∃ q, K = q + 1 := ⟨K - 1, by omega⟩
      obtain ⟨x1, r2, b2, h1⟩ := num_any r b 4 (by omega) (k := q) (by omega)
      obtain ⟨x2, r3, b3, h2⟩ := num_any r2 b2 1 (by omega) (k := q) (by omega)
      obtain ⟨x3, r4, b4, h3⟩ := num_any r3 b3 1 (by omega) (k := q) (by omega)
      rw [show i = 4 from by omega]
      exact ⟨_, _, _, _, get_tail s v r r2 r3 r4 b b2 b3 b4 x1 x2 x3 (by omega) h1 h2 h3⟩
    | succ d ih =>
      intro i v r b hi hv K hK
      obtain ⟨q, rfl⟩ : ∃ q, K = q + 1 := ⟨K - 1, by omega⟩
      obtain ⟨x1, r2, b2, h1⟩ := num_any r b 4 (by omega) (k := q) (by omega)
      have h1 : extra_Taker_Num.f q r b 4 = some (x1, r2, b2) := h1
      obtain ⟨gone, v', stamp, node, h⟩ := ih (i + 1) (v ++ [x1]) r2 b2 (by omega) (by simp [hv]) q (by omega)
      refine ⟨gone, v', stamp, node, ?_⟩
      rw [extra_Get.l0, if_pos (by omega), h1, Option.bind_some]
      dsimp only
      rw [if_pos (by omega), w64 (by omega) (by omega), show (i : Int) + 1 = ((i + 1 : Nat) : Int) from by omega]
      exact h
  obtain ⟨t, r, b, h, _⟩ := text_any s false 4
  have h : extra_Taker_Text.f s false 4 = some (t, r, b) := h
  obtain ⟨gone, v', stamp, node, hx⟩ := hl 4 0 [] r b rfl rfl k (by omega)
  refine ⟨gone, v', stamp, node, ?_⟩
  unfold extra_Get.f
  rw [h, Option.bind_some]
  exact hx
end Go.Proofs.YtneogampbohfnaaDoor.ZG
