/- Chapter 1 over plain rows: what the program's writer and reader do. -/
import Derived.Test.YtbifignggnfodaaBW2
import Derived.Test.YtbifignggnfodaaBW1
import Derived.Test.YtbifignggnfodaaBW3
import Derived.Test.YtbifignggnfodaaBW5
import Derived.Test.YtbifignggnfodaaBW6
import Derived.Test.YtbifignggnfodaaBW7
import Derived.Test.YtbifignggnfodaaBW8
import Derived.Test.YtbifignggnfodaaBW9
import Derived.Test.YtbifignggnfodaaBitsM
import Derived.Laws.BitsAllLaws
namespace Go.Proofs.Ytbifignggnfodaa.BW
set_option linter.unusedVariables false
set_option linter.unusedSimpArgs false
open Go Go.RowKit Go.Proofs.YtbifignggnfodaaW.PrintWords Go.Proofs.YtbifignggnfodaaW.PrintLast Go.Proofs.YtbifignggnfodaaW.PrintMore Go.Proofs.Ytbifignggnfodaa.BitsM
theorem w64 {n : Int} (h : -9223372036854775808 ≤ n) (h' : n < 9223372036854775808) : wrap64 n = n := by unfold wrap64; omega
theorem tmodN (n m : Nat) : Int.tmod (n : Int) (m : Int) = ((n % m : Nat) : Int) := by rw [Int.tmod_eq_emod_of_nonneg (by omega)]; rfl
theorem tdivN (n m : Nat) : Int.tdiv (n : Int) (m : Int) = ((n / m : Nat) : Int) := by rw [Int.tdiv_eq_ediv_of_nonneg (by omega)]; rfl
theorem shlN (b j : Nat) (hj : j ≤ 64) (h : b * 2 ^ j < 9223372036854775808) : shl .i64 (b : Int) (j : Int) = ((b * 2 ^ j : Nat) : Int) := by
  unfold shl
  rw [Nat.min_eq_left (show (j : Int).toNat ≤ IntKind.i64.bits by show (j : Int).toNat ≤ 64; omega), Int.toNat_natCast]
  have e : (b : Int) * 2 ^ j = ((b * 2 ^ j : Nat) : Int) := by simp
  rw [e]
  generalize b * 2 ^ j = q at h ⊢
  exact Bits.wrap_in (by omega) (by omega)
theorem shrN (V i : Nat) (hi : i ≤ 64) : shr .i64 (V : Int) (i : Int) = ((V / 2 ^ i : Nat) : Int) := by
  unfold shr
  rw [Nat.min_eq_left (show (i : Int).toNat ≤ IntKind.i64.bits by show (i : Int).toNat ≤ 64; omega), Int.toNat_natCast]
  simp
theorem shr8N (V i : Nat) (hi : i ≤ 8) : shr .u8 (V : Int) (i : Int) = ((V / 2 ^ i : Nat) : Int) := by
  unfold shr
  rw [Nat.min_eq_left (show (i : Int).toNat ≤ IntKind.u8.bits by show (i : Int).toNat ≤ 8; omega), Int.toNat_natCast]
  simp
theorem one_of (V i : Nat) (hi : i ≤ 64) : Go.bits .and .i64 (shr .i64 (V : Int) (i : Int)) 1 = ((V / 2 ^ i % 2 : Nat) : Int) := by
  rw [shrN V i hi, Bits.and_1]; rfl
theorem or8 (x b j : Nat) (hx : x < 2 ^ j) (hb : b < 2) (hj : j < 8) : Go.bits .or .u8 (x : Int) (((b * 2 ^ j : Nat) : Int) % 256) = ((x + b * 2 ^ j : Nat) : Int) := by
  have hj7 : 2 ^ j ≤ 128 := by
    have : 2 ^ j ≤ 2 ^ 7 := Nat.pow_le_pow_right (by decide) (by omega)
    exact this
  have hb2 : b * 2 ^ j ≤ 1 * 2 ^ j := Nat.mul_le_mul_right _ (by omega)
  rw [show (((b * 2 ^ j : Nat) : Int) % 256) = ((b * 2 ^ j : Nat) : Int) from by omega, u8_or_nat _ _ (by omega) (by omega), Nat.or_comm, Nat.mul_comm, ← Nat.two_pow_add_eq_or_of_lt hx, Nat.add_comm]
theorem rdN (L : List Int) (i : Nat) (hi : i < L.length) (hb : isB L) : rd L (i : Int) = (((L[i]).toNat : Nat) : Int) := by
  have := hb _ (List.getElem_mem hi)
  unfold rd
  rw [Int.toNat_natCast, List.getD_eq_getElem?_getD, List.getElem?_eq_getElem hi]
  show L[i] = _
  omega
theorem bit_k (L : List Int) (n N b : Nat) (h : IsW L n N) (hb : b < 2) (hn : n < 1000000) : ∃ L', bits_Writer_bit.f L (n : Int) (b : Int) = some (L', ((n + 1 : Nat) : Int)) ∧ IsW L' (n + 1) (N + b * 2 ^ n) := by
  have hl := h.len
  have e8 : Int.tmod (n : Int) 8 = ((n % 8 : Nat) : Int) := tmodN n 8
  have hb2 : ∀ j, j < 8 → b * 2 ^ j < 256 := fun j hj => by
    have : 2 ^ j ≤ 2 ^ 7 := Nat.pow_le_pow_right (by decide) (by omega)
    have h2 : b * 2 ^ j ≤ 1 * 2 ^ j := Nat.mul_le_mul_right _ (by omega)
    have h7 : (2 : Nat) ^ 7 = 128 := by decide
    omega
  unfold bits_Writer_bit.f
  rw [e8]
  by_cases h0 : n % 8 = 0
  · refine ⟨_, ?_, h.more (n / 8) b (by omega) hb⟩
    have hr : rd (L ++ [0]) (L.length : Int) = ((0 : Nat) : Int) := by
      unfold rd
      rw [Int.toNat_natCast, List.getD_eq_getElem?_getD, List.getElem?_append_right (Nat.le_refl _), Nat.sub_self]
      rfl
    have ho := or8 0 b 0 (by decide) hb (by omega)
    rw [if_pos (by omega), if_pos (by omega), Option.bind_some, List.length_append, List.length_singleton, w64 (by omega) (by omega), show (((L.length + 1 : Nat) : Int) - 1) = (L.length : Int) from by omega, if_pos (by omega), if_pos (by omega), if_pos (by omega), hr,
      h0, shlN b 0 (by omega) (by have := hb2 0 (by omega); omega), ho, w64 (by omega) (by omega), Int.toNat_natCast]
    simp
  · have hj : 1 ≤ n % 8 ∧ n % 8 < 8 := by omega
    obtain ⟨hi, hq, hx⟩ := h.last (n / 8) (n % 8) (by omega) hj
    refine ⟨_, ?_, h.into (n / 8) (n % 8) b (by omega) hj hb hi⟩
    have hm := hb2 (n % 8) hj.2
    rw [if_neg (by omega), w64 (n := (L.length : Int) - 1) (by omega) (by omega), show ((L.length : Int) - 1) = ((n / 8 : Nat) : Int) from by omega, if_pos (by omega), if_pos (by omega), if_pos (by omega), rdN L _ hi h.b,
      shlN b (n % 8) (by omega) (by omega), or8 _ b _ hx hb hj.2, w64 (by omega) (by omega), Int.toNat_natCast]
    simp
theorem fits_k (L : List Int) (n : Nat) (V k : Int) (u : Int) (hn : n < 1000000) (hu : u ≤ 16) : bits_Writer_fits.f L (n : Int) V k u = some (decide (0 ≤ k ∧ k ≤ u ∧ 0 ≤ V ∧ V < ((2 ^ k.toNat : Nat) : Int) ∧ (n : Int) + k ≤ 65536), L, (n : Int)) := by
  unfold bits_Writer_fits.f
  by_cases h1 : 0 ≤ k
  · by_cases h2 : k ≤ u
    · obtain ⟨K, rfl⟩ : ∃ K : Nat, k = (K : Int) := ⟨k.toNat, by omega⟩
      have hp : 2 ^ K ≤ 2 ^ 16 := Nat.pow_le_pow_right (by decide) (by omega)
      have hp16 : (2 : Nat) ^ 16 = 65536 := by decide
      by_cases h3 : 0 ≤ V
      · have hs := shlN 1 K (by omega) (by rw [Nat.one_mul]; omega)
        rw [Nat.one_mul] at hs
        have hs : shl .i64 1 (K : Int) = ((2 ^ K : Nat) : Int) := hs
        rw [if_pos h1, if_pos h2, if_pos h3, if_pos h1, hs, Int.toNat_natCast]
        generalize 2 ^ K = t at hp
        by_cases h4 : V < (t : Int)
        · rw [if_pos h4, w64 (by omega) (by omega)]
          simp [h1, h2, h3, h4]
        · rw [if_neg h4]
          simp [h4]
      · rw [if_pos h1, if_pos h2, if_neg h3]
        simp [h3]
    · rw [if_pos h1, if_neg h2]
      simp [h2]
  · rw [if_neg h1]
    simp [h1]
theorem put_l0 (V k n N : Nat) (hk : k ≤ 16) (hn : n + k ≤ 65536) : ∀ (d i : Nat) (L : List Int), i + d = k → IsW L (n + i) (N + V % 2 ^ i * 2 ^ n) → ∀ K, d + 1 ≤ K →
    ∃ L', bits_Writer_Put.l0 K (V : Int) (k : Int) (i : Int) L ((n + i : Nat) : Int) = some (0, L', ((n + k : Nat) : Int)) ∧ IsW L' (n + k) (N + V % 2 ^ k * 2 ^ n)
  | 0, i, L, hi, h, K, hK => by
    obtain ⟨m, rfl⟩ : ∃ m, K = m + 1 := ⟨K - 1, by omega⟩
    obtain rfl : i = k := by omega
    exact ⟨L, by rw [bits_Writer_Put.l0, if_neg (by omega)], h⟩
  | d + 1, i, L, hi, h, K, hK => by
    obtain ⟨m, rfl⟩ : ∃ m, K = m + 1 := ⟨K - 1, by omega⟩
    obtain ⟨L1, e1, h1⟩ := bit_k L (n + i) _ (V / 2 ^ i % 2) h (Nat.mod_lt _ (by decide)) (by omega)
    have hN : N + V % 2 ^ i * 2 ^ n + V / 2 ^ i % 2 * 2 ^ (n + i) = N + V % 2 ^ (i + 1) * 2 ^ n := by
      rw [Nat.pow_succ, Nat.mod_mul, Nat.pow_add, Nat.add_mul, Nat.add_assoc]
      congr 2
      ac_rfl
    rw [hN] at h1
    obtain ⟨L2, e2, h2⟩ := put_l0 V k n N hk hn d (i + 1) L1 (by omega) h1 m (by omega)
    refine ⟨L2, ?_, h2⟩
    rw [bits_Writer_Put.l0, if_pos (by omega), if_pos (by omega), one_of V i (by omega), e1, Option.bind_some, w64 (by omega) (by omega)]
    exact e2
/-- What may be put is put. -/
theorem put_ok (L : List Int) (n N V k : Nat) (h : IsW L n N) (hk : k ≤ 16) (hV : V < 2 ^ k) (hn : n + k ≤ 65536) {K : Nat} (hK : 20 ≤ K) :
    ∃ L', bits_Writer_Put.f K L (n : Int) (V : Int) (k : Int) = some (0, L', ((n + k : Nat) : Int)) ∧ IsW L' (n + k) (N + V * 2 ^ n) := by
  obtain ⟨L', e, h'⟩ := put_l0 V k n N hk hn k 0 L (by omega) (by simpa [Nat.mod_one] using h) K (by omega)
  rw [Nat.mod_eq_of_lt hV] at h'
  refine ⟨L', ?_, h'⟩
  unfold bits_Writer_Put.f
  rw [fits_k L n V k 16 (by omega) (by omega), decide_eq_true (p := _) ⟨by omega, by omega, by omega, by rw [Int.toNat_natCast]; omega, by omega⟩, Option.bind_some]
  rw [if_pos rfl]
  exact e
/-- What may not be put isn't. -/
theorem put_no (L : List Int) (n : Nat) (V k : Int) (hn : n < 1000000) (h : ¬ (0 ≤ k ∧ k ≤ 16 ∧ 0 ≤ V ∧ V < ((2 ^ k.toNat : Nat) : Int) ∧ (n : Int) + k ≤ 65536)) (K : Nat) : bits_Writer_Put.f K L (n : Int) V k = some (100, L, (n : Int)) := by
  unfold bits_Writer_Put.f
  rw [fits_k L n V k 16 hn (by omega), decide_eq_false (p := _) h, Option.bind_some, if_neg Bool.false_ne_true]
theorem code_l0 (V k x y : Int) (v : Nat) (hx : y = (v : Int)) : ∀ (m n N : Nat) (L : List Int), m ≤ 15 → n + m ≤ 65536 → IsW L n N → ∀ K, m + 1 ≤ K →
    ∃ L', bits_Writer_Code.l0 K ((m : Int) - 1) L (n : Int) x y = some (0, L', ((n + m : Nat) : Int)) ∧ IsW L' (n + m) (N + rv m v * 2 ^ n)
  | 0, n, N, L, _, _, h, K, hK => by
    obtain ⟨q, rfl⟩ : ∃ q, K = q + 1 := ⟨K - 1, by omega⟩
    exact ⟨L, by rw [bits_Writer_Code.l0, if_neg (by omega)]; rfl, by simpa [rv] using h⟩
  | m + 1, n, N, L, hm, hn, h, K, hK => by
    obtain ⟨q, rfl⟩ : ∃ q, K = q + 1 := ⟨K - 1, by omega⟩
    obtain ⟨L1, e1, h1⟩ := bit_k L n N (v / 2 ^ m % 2) h (Nat.mod_lt _ (by decide)) (by omega)
    obtain ⟨L2, e2, h2⟩ := code_l0 V k x y v hx m (n + 1) _ L1 (by omega) (by omega) h1 q (by omega)
    have hN : N + v / 2 ^ m % 2 * 2 ^ n + rv m v * 2 ^ (n + 1) = N + rv (m + 1) v * 2 ^ n := by
      show _ = N + (v / 2 ^ m % 2 + 2 * rv m v) * 2 ^ n
      rw [Nat.pow_succ, Nat.add_mul, Nat.add_assoc]
      congr 2
      ac_rfl
    rw [hN, show n + 1 + m = n + (m + 1) from by omega] at h2
    refine ⟨L2, ?_, h2⟩
    rw [bits_Writer_Code.l0, if_pos (by omega), if_pos (by omega), show (((m + 1 : Nat) : Int) - 1) = (m : Int) from by omega, hx, one_of v m (by omega), e1, Option.bind_some, w64 (by omega) (by omega)]
    rw [show n + 1 + m = n + (m + 1) from by omega, hx] at e2
    exact e2
theorem code_ok (L : List Int) (n N v k : Nat) (h : IsW L n N) (hk : 1 ≤ k ∧ k ≤ 15) (hV : v < 2 ^ k) (hn : n + k ≤ 65536) {K : Nat} (hK : 20 ≤ K) :
    ∃ L', bits_Writer_Code.f K L (n : Int) (k : Int) (v : Int) = some (0, L', ((n + k : Nat) : Int)) ∧ IsW L' (n + k) (N + rv k v * 2 ^ n) := by
  obtain ⟨L', e, h'⟩ := code_l0 0 0 (k : Int) (v : Int) v rfl k n N L (by omega) hn h K (by omega)
  refine ⟨L', ?_, h'⟩
  unfold bits_Writer_Code.f
  rw [if_neg (by omega), fits_k L n v k 15 (by omega) (by omega), decide_eq_true (p := _) ⟨by omega, by omega, by omega, by rw [Int.toNat_natCast]; omega, by omega⟩, Option.bind_some]
  rw [if_pos rfl, w64 (by omega) (by omega)]
  exact e
theorem code_no (L : List Int) (n : Nat) (V k : Int) (hn : n < 1000000) (h : ¬ (1 ≤ k ∧ k ≤ 15 ∧ 0 ≤ V ∧ V < ((2 ^ k.toNat : Nat) : Int) ∧ (n : Int) + k ≤ 65536)) (K : Nat) : bits_Writer_Code.f K L (n : Int) k V = some (100, L, (n : Int)) := by
  unfold bits_Writer_Code.f
  by_cases h1 : k < 1
  · rw [if_pos h1]
  · rw [if_neg h1, fits_k L n V k 15 hn (by omega), decide_eq_false (p := _) (fun h2 => h ⟨by omega, h2.2⟩), Option.bind_some, if_neg Bool.false_ne_true]
/-- A text of bytes. -/
theorem bt_bytes {L : List Int} (h : isB L) (i : Nat) (hi : i < L.length) : bt (strOfNums L) (i : Int) = (((L[i]).toNat : Nat) : Int) := by
  have hz : (strOfNums L).size = L.length := strOfNums_size L
  have e1 := (bt_at (strOfNums L) (i : Int) (by omega)).symm
  rw [e1]
  have h2 : (strOfNums L).data.toList[i]? = some (UInt8.ofNat (L[i]).toNat) := by
    rw [strOfNums_data, List.getElem?_map, List.getElem?_eq_getElem hi]; rfl
  have hz2 : (strOfNums L).data.toList.length = L.length := hz
  rw [List.getElem?_eq_getElem (by omega)] at h2
  injection h2 with h2
  have h3 : (strOfNums L)[(i : Int).toNat]'(by omega) = UInt8.ofNat (L[i]).toNat := h2
  have hb := h _ (List.getElem_mem hi)
  rw [h3, UInt8.toNat_ofNat_of_lt' (show (L[i]).toNat < UInt8.size by show _ < 256; omega)]
theorem get_bit {L : List Int} (h : isB L) (p : Nat) (hp : p < 8 * L.length) : Go.bits .and .u8 (shr .u8 (bt (strOfNums L) ((p / 8 : Nat) : Int)) ((p % 8 : Nat) : Int)) 1 = ((num L / 2 ^ p % 2 : Nat) : Int) := by
  obtain ⟨hi, e⟩ := bit_at h p hp
  have hb := h _ (List.getElem_mem hi)
  rw [bt_bytes h _ hi, shr8N _ _ (by omega)]
  have h8 : (L[p / 8]).toNat / 2 ^ (p % 8) < 256 := Nat.lt_of_le_of_lt (Nat.div_le_self _ _) (by omega)
  rw [show (1 : Int) = ((1 : Nat) : Int) from rfl, u8_and_nat _ _ h8 (by decide), nat_mask1, e]
theorem get_l0 {L : List Int} (h : isB L) (hL : L.length ≤ 1000000) (p k : Nat) (hk : k ≤ 16) (hp : p + k ≤ 8 * L.length) : ∀ (d i : Nat), i + d = k → ∀ K, d + 1 ≤ K →
    bits_Reader_Get.l0 K ((num L / 2 ^ p % 2 ^ i : Nat) : Int) (k : Int) (i : Int) (strOfNums L) ((p + i : Nat) : Int) = some (((num L / 2 ^ p % 2 ^ k : Nat) : Int), 0, strOfNums L, ((p + k : Nat) : Int))
  | 0, i, hi, K, hK => by
    obtain ⟨m, rfl⟩ : ∃ m, K = m + 1 := ⟨K - 1, by omega⟩
    obtain rfl : i = k := by omega
    rw [bits_Reader_Get.l0, if_neg (by omega)]
  | d + 1, i, hi, K, hK => by
    obtain ⟨m, rfl⟩ : ∃ m, K = m + 1 := ⟨K - 1, by omega⟩
    have ih := get_l0 h hL p k hk hp d (i + 1) (by omega) m (by omega)
    have hz : (strOfNums L).size = L.length := strOfNums_size L
    have ed : Int.tdiv ((p + i : Nat) : Int) 8 = (((p + i) / 8 : Nat) : Int) := tdivN (p + i) 8
    have em : Int.tmod ((p + i : Nat) : Int) 8 = (((p + i) % 8 : Nat) : Int) := tmodN (p + i) 8
    have hg := get_bit h (p + i) (by omega)
    have hb : num L / 2 ^ (p + i) % 2 < 2 := Nat.mod_lt _ (by decide)
    have hpi : 2 ^ i ≤ 2 ^ 16 := Nat.pow_le_pow_right (by decide) (by omega)
    have hp16 : (2 : Nat) ^ 16 = 65536 := by decide
    have hlt : num L / 2 ^ p % 2 ^ i < 2 ^ i := Nat.mod_lt _ (Nat.pow_pos (by decide))
    have hmul : num L / 2 ^ (p + i) % 2 * 2 ^ i ≤ 1 * 2 ^ i := Nat.mul_le_mul_right _ (by omega)
    have ho := Bits.or_add (num L / 2 ^ p % 2 ^ i) (num L / 2 ^ (p + i) % 2) i hlt (by omega)
    rw [bits_Reader_Get.l0, if_pos (by omega), ed, em, w64 (n := (((p + i) / 8 : Nat) : Int)) (by omega) (by omega), if_pos (by omega), if_pos (by omega), if_pos (by omega), if_pos (by omega), hg, w64 (by omega) (by omega), shlN _ i (by omega) (by omega), ho, mod_more,
      w64 (by omega) (by omega), w64 (by omega) (by omega)]
    exact ih
/-- What stands there is got. -/
theorem get_ok {L : List Int} (h : isB L) (hL : L.length ≤ 1000000) (p k : Nat) (hk : k ≤ 16) (hp : p + k ≤ 8 * L.length) {K : Nat} (hK : 20 ≤ K) : bits_Reader_Get.f K (strOfNums L) (p : Int) (k : Int) = some (((num L / 2 ^ p % 2 ^ k : Nat) : Int), 0, strOfNums L, ((p + k : Nat) : Int)) := by
  obtain ⟨m, rfl⟩ : ∃ m, K = m + 1 := ⟨K - 1, by omega⟩
  have hz : (strOfNums L).size = L.length := strOfNums_size L
  have := get_l0 h hL p k hk hp k 0 (by omega) m (by omega)
  have e0 : ((num L / 2 ^ p % 2 ^ 0 : Nat) : Int) = 0 := by simp [Nat.mod_one]
  rw [e0] at this
  unfold bits_Reader_Get.f
  rw [if_neg (by omega), decide_eq_false (p := (k : Int) > 16) (by omega), bits_Reader_Get.j0, if_neg (by decide), hz, w64 (n := 8 * (L.length : Int)) (by omega) (by omega), w64 (by omega) (by omega), if_neg (by omega)]
  exact this
theorem get_end {L : List Int} (hL : L.length ≤ 1000000) (p k : Nat) (hk : k ≤ 16) (hp : 8 * L.length < p + k) (hq : p ≤ 10000000) {K : Nat} (hK : 20 ≤ K) : bits_Reader_Get.f K (strOfNums L) (p : Int) (k : Int) = some (0, 101, strOfNums L, (p : Int)) := by
  obtain ⟨m, rfl⟩ : ∃ m, K = m + 1 := ⟨K - 1, by omega⟩
  have hz : (strOfNums L).size = L.length := strOfNums_size L
  unfold bits_Reader_Get.f
  rw [if_neg (by omega), decide_eq_false (p := (k : Int) > 16) (by omega), bits_Reader_Get.j0, if_neg (by decide), hz, w64 (n := 8 * (L.length : Int)) (by omega) (by omega), w64 (by omega) (by omega), if_pos (by omega)]
theorem get_no (s : ByteArray) (p k : Int) (hk : k < 0 ∨ 16 < k) {K : Nat} (hK : 1 ≤ K) : bits_Reader_Get.f K s p k = some (0, 100, s, p) := by
  obtain ⟨m, rfl⟩ : ∃ m, K = m + 1 := ⟨K - 1, by omega⟩
  unfold bits_Reader_Get.f
  by_cases h : k < 0
  · rw [if_pos h, bits_Reader_Get.j0, if_pos rfl]
  · rw [if_neg h, decide_eq_true (p := k > 16) (by omega), bits_Reader_Get.j0, if_pos rfl]
theorem align_w (L : List Int) (n N : Nat) (h : IsW L n N) (hn : n < 1000000) : bits_Writer_Align.f L (n : Int) = some (0, L, ((8 * L.length : Nat) : Int)) := by
  have := h.len
  unfold bits_Writer_Align.f
  rw [w64 (by omega) (by omega)]
  rfl
theorem align_r (s : ByteArray) (p : Nat) (hp : p ≤ 10000000) : bits_Reader_Align.f s (p : Int) = some (0, s, (((p + 7) / 8 * 8 : Nat) : Int)) := by
  unfold bits_Reader_Align.f
  have ed : Int.tdiv ((p + 7 : Nat) : Int) 8 = (((p + 7) / 8 : Nat) : Int) := tdivN (p + 7) 8
  rw [w64 (n := (p : Int) + 8) (by omega) (by omega), w64 (n := (p : Int) + 8 - 1) (by omega) (by omega), show (p : Int) + 8 - 1 = ((p + 7 : Nat) : Int) from by omega, ed, w64 (n := (((p + 7) / 8 : Nat) : Int)) (by omega) (by omega), w64 (by omega) (by omega)]
  rfl
end Go.Proofs.Ytbifignggnfodaa.BW
