/- Chapter 1 over plain rows: what the document's own writer and reader do. -/
import Derived.Test.YtbifignggnfodaaBitsWBW
import Derived.Test.YtbifignggnfodaaBW4
import Derived.Test.YtbifignggnfodaaBW5
import Derived.Test.YtbifignggnfodaaBW6
import Derived.Test.YtbifignggnfodaaBW7
import Derived.Test.YtbifignggnfodaaBW9
namespace Go.Proofs.Ytbifignggnfodaa.BW
set_option linter.unusedVariables false
set_option linter.unusedSimpArgs false
open Go Go.RowKit Go.Proofs.YtbifignggnfodaaW.PrintWords Go.Proofs.YtbifignggnfodaaW.PrintLast Go.Proofs.YtbifignggnfodaaW.PrintMore Go.Proofs.Ytbifignggnfodaa.BitsM
theorem one_k (L : List Int) (n N b : Nat) (h : IsW L n N) (hb : b < 2) (hn : n < 1000000) : ∃ L', portageref1_Writer_one.f L (n : Int) (b : Int) = some (L', ((n + 1 : Nat) : Int)) ∧ IsW L' (n + 1) (N + b * 2 ^ n) := by
  have hl := h.len
  have e8 : Int.tmod (n : Int) 8 = ((n % 8 : Nat) : Int) := tmodN n 8
  have hb2 : ∀ j, j < 8 → b * 2 ^ j < 256 := fun j hj => by
    have : 2 ^ j ≤ 2 ^ 7 := Nat.pow_le_pow_right (by decide) (by omega)
    have h2 : b * 2 ^ j ≤ 1 * 2 ^ j := Nat.mul_le_mul_right _ (by omega)
    have h7 : (2 : Nat) ^ 7 = 128 := by decide
    omega
  unfold portageref1_Writer_one.f
  rw [e8]
  by_cases h0 : n % 8 = 0
  · refine ⟨_, ?_, h.more (n / 8) b (by omega) hb⟩
    have hr : rd (L ++ [0]) (L.length : Int) = ((0 : Nat) : Int) := by
      unfold rd
      rw [Int.toNat_natCast, List.getD_eq_getElem?_getD, List.getElem?_append_right (Nat.le_refl _), Nat.sub_self]
      rfl
    have ho := or8 0 b 0 (by decide) hb (by omega)
    rw [if_pos (by omega), if_pos (by omega), Option.bind_some, List.length_append, List.length_singleton, w64 (by omega) (by omega), show (((L.length + 1 : Nat) : Int) - 1) = (L.length : Int) from by omega, if_pos (by omega), if_pos (by omega), if_pos (by omega), hr,
      h0, shlN b 0 (by omega) (by have := hb2 0 (by omega); omega), ho, w64 (by omega) (by omega), Int.toNat_natCast]
    simp
  · have hj : 1 ≤ n % 8 ∧ n % 8 < 8 := by omega
    obtain ⟨hi, hq, hx⟩ := h.last (n / 8) (n % 8) (by omega) hj
    refine ⟨_, ?_, h.into (n / 8) (n % 8) b (by omega) hj hb hi⟩
    have hm := hb2 (n % 8) hj.2
    rw [if_neg (by omega), w64 (n := (L.length : Int) - 1) (by omega) (by omega), show ((L.length : Int) - 1) = ((n / 8 : Nat) : Int) from by omega, if_pos (by omega), if_pos (by omega), if_pos (by omega), rdN L _ hi h.b,
      shlN b (n % 8) (by omega) (by omega), or8 _ b _ hx hb hj.2, w64 (by omega) (by omega), Int.toNat_natCast]
    simp
theorem refput_l0 (V k n N : Nat) (hk : k ≤ 16) (hn : n + k ≤ 65536) : ∀ (d i : Nat) (L : List Int), i + d = k → IsW L (n + i) (N + V % 2 ^ i * 2 ^ n) → ∀ K, d + 1 ≤ K →
    ∃ L', portageref1_Writer_Put.l0 K (V : Int) (k : Int) (i : Int) L ((n + i : Nat) : Int) = some (0, L', ((n + k : Nat) : Int)) ∧ IsW L' (n + k) (N + V % 2 ^ k * 2 ^ n)
  | 0, i, L, hi, h, K, hK => by
    obtain ⟨m, rfl⟩ : ∃ m, K = m + 1 := ⟨K - 1, by omega⟩
    obtain rfl : i = k := by omega
    exact ⟨L, by rw [portageref1_Writer_Put.l0, if_neg (by omega)], h⟩
  | d + 1, i, L, hi, h, K, hK => by
    obtain ⟨m, rfl⟩ : ∃ m, K = m + 1 := ⟨K - 1, by omega⟩
    obtain ⟨L1, e1, h1⟩ := one_k L (n + i) _ (V / 2 ^ i % 2) h (Nat.mod_lt _ (by decide)) (by omega)
    have hN : N + V % 2 ^ i * 2 ^ n + V / 2 ^ i % 2 * 2 ^ (n + i) = N + V % 2 ^ (i + 1) * 2 ^ n := by
      rw [Nat.pow_succ, Nat.mod_mul, Nat.pow_add, Nat.add_mul, Nat.add_assoc]
      congr 2
      ac_rfl
    rw [hN] at h1
    obtain ⟨L2, e2, h2⟩ := refput_l0 V k n N hk hn d (i + 1) L1 (by omega) h1 m (by omega)
    refine ⟨L2, ?_, h2⟩
    rw [portageref1_Writer_Put.l0, if_pos (by omega), if_pos (by omega), one_of V i (by omega), e1, Option.bind_some, w64 (by omega) (by omega)]
    exact e2
theorem shl1 (k : Nat) (hk : k ≤ 16) : shl .i64 1 (k : Int) = ((2 ^ k : Nat) : Int) ∧ 2 ^ k ≤ 65536 := by
  have hp : 2 ^ k ≤ 2 ^ 16 := Nat.pow_le_pow_right (by decide) (by omega)
  have hp16 : (2 : Nat) ^ 16 = 65536 := by decide
  have hs := shlN 1 k (by omega) (by rw [Nat.one_mul]; omega)
  rw [Nat.one_mul] at hs
  exact ⟨hs, by omega⟩
theorem refput_ok (L : List Int) (n N V k : Nat) (h : IsW L n N) (hk : k ≤ 16) (hV : V < 2 ^ k) (hn : n + k ≤ 65536) {K : Nat} (hK : 20 ≤ K) :
    ∃ L', portageref1_Writer_Put.f K L (n : Int) (V : Int) (k : Int) = some (0, L', ((n + k : Nat) : Int)) ∧ IsW L' (n + k) (N + V * 2 ^ n) := by
  obtain ⟨q, rfl⟩ : ∃ q, K = q + 1 := ⟨K - 1, by omega⟩
  obtain ⟨L', e, h'⟩ := refput_l0 V k n N hk hn k 0 L (by omega) (by simpa [Nat.mod_one] using h) q (by omega)
  rw [Nat.mod_eq_of_lt hV] at h'
  refine ⟨L', ?_, h'⟩
  obtain ⟨hs, hp⟩ := shl1 k hk
  unfold portageref1_Writer_Put.f
  rw [if_neg (by omega), if_neg (by omega), if_neg (by omega), if_pos (by omega), hs, if_neg (by omega), w64 (by omega) (by omega), decide_eq_false (p := (n : Int) + (k : Int) > 65536) (by omega), portageref1_Writer_Put.j0, if_neg Bool.false_ne_true]
  exact e
theorem refput_no (L : List Int) (n : Nat) (V k : Int) (hn : n < 1000000) (h : ¬ (0 ≤ k ∧ k ≤ 16 ∧ 0 ≤ V ∧ V < ((2 ^ k.toNat : Nat) : Int) ∧ (n : Int) + k ≤ 65536)) {K : Nat} (hK : 1 ≤ K) : portageref1_Writer_Put.f K L (n : Int) V k = some (100, L, (n : Int)) := by
  obtain ⟨q, rfl⟩ : ∃ q, K = q + 1 := ⟨K - 1, by omega⟩
  have hj : portageref1_Writer_Put.j0 (q + 1) V k true L (n : Int) = some (100, L, (n : Int)) := by rw [portageref1_Writer_Put.j0, if_pos rfl]
  unfold portageref1_Writer_Put.f
  by_cases h1 : k < 0
  · rw [if_pos h1, hj]
  · by_cases h2 : k > 16
    · rw [if_neg h1, if_pos h2, hj]
    · by_cases h3 : V < 0
      · rw [if_neg h1, if_neg h2, if_pos h3, hj]
      · obtain ⟨k, rfl⟩ : ∃ k' : Nat, k = (k' : Int) := ⟨k.toNat, by omega⟩
        obtain ⟨hs, hp⟩ := shl1 k (by omega)
        rw [if_neg h1, if_neg h2, if_neg h3, if_pos (by omega), hs]
        by_cases h4 : V ≥ ((2 ^ k : Nat) : Int)
        · rw [if_pos h4, hj]
        · rw [if_neg h4, w64 (by omega) (by omega), decide_eq_true (p := (n : Int) + (k : Int) > 65536) (by
            rw [Int.toNat_natCast] at h
            exact Int.not_le.mp fun h5 => h ⟨by omega, by omega, by omega, by omega, h5⟩), hj]
theorem refcode_l0 (x y : Int) (v : Nat) (hx : y = (v : Int)) : ∀ (m n N : Nat) (L : List Int), m ≤ 15 → n + m ≤ 65536 → IsW L n N → ∀ K, m + 1 ≤ K →
    ∃ L', portageref1_Writer_Code.l0 K ((m : Int) - 1) L (n : Int) x y = some (0, L', ((n + m : Nat) : Int)) ∧ IsW L' (n + m) (N + rv m v * 2 ^ n)
  | 0, n, N, L, _, _, h, K, hK => by
    obtain ⟨q, rfl⟩ : ∃ q, K = q + 1 := ⟨K - 1, by omega⟩
    exact ⟨L, by rw [portageref1_Writer_Code.l0, if_neg (by omega)]; rfl, by simpa [rv] using h⟩
  | m + 1, n, N, L, hm, hn, h, K, hK => by
    obtain ⟨q, rfl⟩ : ∃ q, K = q + 1 := ⟨K - 1, by omega⟩
    obtain ⟨L1, e1, h1⟩ := one_k L n N (v / 2 ^ m % 2) h (Nat.mod_lt _ (by decide)) (by omega)
    obtain ⟨L2, e2, h2⟩ := refcode_l0 x y v hx m (n + 1) _ L1 (by omega) (by omega) h1 q (by omega)
    have hN : N + v / 2 ^ m % 2 * 2 ^ n + rv m v * 2 ^ (n + 1) = N + rv (m + 1) v * 2 ^ n := by
      show _ = N + (v / 2 ^ m % 2 + 2 * rv m v) * 2 ^ n
      rw [Nat.pow_succ, Nat.add_mul, Nat.add_assoc]
      congr 2
      ac_rfl
    rw [hN, show n + 1 + m = n + (m + 1) from by omega] at h2
    refine ⟨L2, ?_, h2⟩
    rw [portageref1_Writer_Code.l0, if_pos (by omega), if_pos (by omega), show (((m + 1 : Nat) : Int) - 1) = (m : Int) from by omega, hx, one_of v m (by omega), e1, Option.bind_some, w64 (by omega) (by omega)]
    rw [show n + 1 + m = n + (m + 1) from by omega, hx] at e2
    exact e2
theorem refcode_ok (L : List Int) (n N v k : Nat) (h : IsW L n N) (hk : 1 ≤ k ∧ k ≤ 15) (hV : v < 2 ^ k) (hn : n + k ≤ 65536) {K : Nat} (hK : 20 ≤ K) :
    ∃ L', portageref1_Writer_Code.f K L (n : Int) (k : Int) (v : Int) = some (0, L', ((n + k : Nat) : Int)) ∧ IsW L' (n + k) (N + rv k v * 2 ^ n) := by
  obtain ⟨q, rfl⟩ : ∃ q, K = q + 1 := ⟨K - 1, by omega⟩
  obtain ⟨L', e, h'⟩ := refcode_l0 (k : Int) (v : Int) v rfl k n N L (by omega) hn h q (by omega)
  refine ⟨L', ?_, h'⟩
  obtain ⟨hs, hp⟩ := shl1 k (by omega)
  unfold portageref1_Writer_Code.f
  rw [if_neg (by omega), if_neg (by omega), if_neg (by omega), if_pos (by omega), hs, if_neg (by omega), w64 (n := (n : Int) + (k : Int)) (by omega) (by omega), decide_eq_false (p := (n : Int) + (k : Int) > 65536) (by omega), portageref1_Writer_Code.j0, if_neg Bool.false_ne_true, w64 (by omega) (by omega)]
  exact e
theorem refcode_no (L : List Int) (n : Nat) (V k : Int) (hn : n < 1000000) (h : ¬ (1 ≤ k ∧ k ≤ 15 ∧ 0 ≤ V ∧ V < ((2 ^ k.toNat : Nat) : Int) ∧ (n : Int) + k ≤ 65536)) {K : Nat} (hK : 1 ≤ K) : portageref1_Writer_Code.f K L (n : Int) k V = some (100, L, (n : Int)) := by
  obtain ⟨q, rfl⟩ : ∃ q, K = q + 1 := ⟨K - 1, by omega⟩
  have hj : portageref1_Writer_Code.j0 (q + 1) true L (n : Int) k V = some (100, L, (n : Int)) := by rw [portageref1_Writer_Code.j0, if_pos rfl]
  unfold portageref1_Writer_Code.f
  by_cases h1 : k < 1
  · rw [if_pos h1, hj]
  · by_cases h2 : k > 15
    · rw [if_neg h1, if_pos h2, hj]
    · by_cases h3 : V < 0
      · rw [if_neg h1, if_neg h2, if_pos h3, hj]
      · obtain ⟨k, rfl⟩ : ∃ k' : Nat, k = (k' : Int) := ⟨k.toNat, by omega⟩
        obtain ⟨hs, hp⟩ := shl1 k (by omega)
        rw [if_neg h1, if_neg h2, if_neg h3, if_pos (by omega), hs]
        by_cases h4 : V ≥ ((2 ^ k : Nat) : Int)
        · rw [if_pos h4, hj]
        · rw [if_neg h4, w64 (by omega) (by omega), decide_eq_true (p := (n : Int) + (k : Int) > 65536) (by
            rw [Int.toNat_natCast] at h
            exact Int.not_le.mp fun h5 => h ⟨by omega, by omega, by omega, by omega, h5⟩), hj]
theorem refalign_l0 : ∀ (d n N : Nat) (L : List Int), IsW L n N → n + d ≤ 100008 → (n + d) % 8 = 0 → d < 8 → ∀ K, d + 1 ≤ K → ∃ L', portageref1_Writer_Align.l0 K L (n : Int) = some (L', ((n + d : Nat) : Int)) ∧ IsW L' (n + d) N
  | 0, n, N, L, h, hn, hd, _, K, hK => by
    obtain ⟨q, rfl⟩ : ∃ q, K = q + 1 := ⟨K - 1, by omega⟩
    have e8 : Int.tmod (n : Int) 8 = ((n % 8 : Nat) : Int) := tmodN n 8
    exact ⟨L, by rw [portageref1_Writer_Align.l0, e8, if_pos (by omega)]; rfl, h⟩
  | d + 1, n, N, L, h, hn, hd, h8, K, hK => by
    obtain ⟨q, rfl⟩ : ∃ q, K = q + 1 := ⟨K - 1, by omega⟩
    have e8 : Int.tmod (n : Int) 8 = ((n % 8 : Nat) : Int) := tmodN n 8
    obtain ⟨L1, e1, h1⟩ := one_k L n N 0 h (by omega) (by omega)
    rw [Nat.zero_mul, Nat.add_zero] at h1
    have e1 : portageref1_Writer_one.f L (n : Int) 0 = _ := e1
    obtain ⟨L2, e2, h2⟩ := refalign_l0 d (n + 1) N L1 h1 (by omega) (by omega) (by omega) q (by omega)
    refine ⟨L2, ?_, by rw [show n + (d + 1) = n + 1 + d from by omega]; exact h2⟩
    rw [portageref1_Writer_Align.l0, e8, if_neg (by omega), e1, Option.bind_some, show n + (d + 1) = n + 1 + d from by omega]
    exact e2
theorem align_gap (n l : Nat) (hl : l = (n + 7) / 8) : ∃ d, 8 * l = n + d ∧ d < 8 ∧ (n + d) % 8 = 0 := ⟨8 * l - n, by omega, by omega, by omega⟩
theorem refalign_k (L : List Int) (n N : Nat) (h : IsW L n N) (hn : n < 100000) {K : Nat} (hK : 10 ≤ K) : portageref1_Writer_Align.f K L (n : Int) = some (L, ((8 * L.length : Nat) : Int)) := by
  obtain ⟨d, hd, hd8, hd0⟩ := align_gap n L.length h.len
  obtain ⟨L', e, h'⟩ := refalign_l0 d n N L h (by omega) hd0 hd8 K (by omega)
  have hlen : L'.length = L.length := by
    have h1 := h.len
    have h2 := h'.len
    omega
  have hu : L' = L := uniq L' L h'.b h.b hlen (h'.e.trans h.e.symm)
  unfold portageref1_Writer_Align.f
  rw [e, hu, hd]
theorem refalign_r (s : ByteArray) (p : Nat) (hp : p ≤ 10000000) : portageref1_Reader_Align.f s (p : Int) = some (s, (((p + 7) / 8 * 8 : Nat) : Int)) := by
  unfold portageref1_Reader_Align.f
  have ed : Int.tdiv ((p + 7 : Nat) : Int) 8 = (((p + 7) / 8 : Nat) : Int) := tdivN (p + 7) 8
  rw [w64 (n := (p : Int) + 7) (by omega) (by omega), show (p : Int) + 7 = ((p + 7 : Nat) : Int) from by omega, ed, w64 (n := (((p + 7) / 8 : Nat) : Int)) (by omega) (by omega), w64 (by omega) (by omega)]
  rfl
theorem gx (p i k z : Nat) (hi : i < k) (hk : k ≤ 16) (hp : p ≤ 10000000) (hpk : p + k ≤ 8 * z) : wrap64 (Int.tdiv ((p + i : Nat) : Int) 8) = (((p + i) / 8 : Nat) : Int) ∧ Int.tmod ((p + i : Nat) : Int) 8 = (((p + i) % 8 : Nat) : Int) ∧ wrap64 ((i : Int) + 1) = ((i + 1 : Nat) : Int) ∧ wrap64 (((p + i : Nat) : Int) + 1) = ((p + (i + 1) : Nat) : Int) ∧ (((p + i) / 8 : Nat) : Int) < (z : Int) := by
  refine ⟨(congrArg wrap64 (tdivN (p + i) 8)).trans (w64 (by omega) (by omega)), tmodN (p + i) 8, ?_, ?_, ?_⟩
  · rw [w64 (by omega) (by omega)]; omega
  · rw [w64 (by omega) (by omega)]; omega
  · omega
/-- Both readers read the same. -/
theorem both_l0 (s : ByteArray) (p k : Nat) (hk : k ≤ 16) (hp : p ≤ 10000000) (hpk : p + k ≤ 8 * s.size) : ∀ (d i : Nat) (acc : Int), i + d = k → ∀ K, d + 1 ≤ K → ∃ x,
    bits_Reader_Get.l0 K acc (k : Int) (i : Int) s ((p + i : Nat) : Int) = some (x, 0, s, ((p + k : Nat) : Int)) ∧ portageref1_Reader_Get.l0 K (k : Int) acc (i : Int) s ((p + i : Nat) : Int) = some (x, 0, s, ((p + k : Nat) : Int))
  | 0, i, acc, hi, K, hK => by
    obtain ⟨m, rfl⟩ : ∃ m, K = m + 1 := ⟨K - 1, by omega⟩
    obtain rfl : i = k := by omega
    exact ⟨acc, by rw [bits_Reader_Get.l0, if_neg (Int.lt_irrefl _)], by rw [portageref1_Reader_Get.l0, if_neg (Int.lt_irrefl _)]⟩
  | d + 1, i, acc, hi, K, hK => by
    obtain ⟨m, rfl⟩ : ∃ m, K = m + 1 := ⟨K - 1, by omega⟩
    have hik : i < k := by omega
    have hm : d + 1 ≤ m := by omega
    have hi1 : i + 1 + d = k := by omega
    have c0 : (i : Int) < (k : Int) := Int.ofNat_lt.mpr hik
    obtain ⟨ed, em, e1, e2, c2⟩ := gx p i k s.size hik hk hp hpk
    obtain ⟨x, h1, h2⟩ := both_l0 s p k hk hp hpk d (i + 1) (Go.bits .or .i64 acc (shl .i64 (wrap64 (Go.bits .and .u8 (shr .u8 (bt s (((p + i) / 8 : Nat) : Int)) (((p + i) % 8 : Nat) : Int)) 1)) (i : Int))) hi1 m hm
    refine ⟨x, ?_, ?_⟩
    · rw [bits_Reader_Get.l0, if_pos c0, ed, em, e1, e2, if_pos (Int.natCast_nonneg _), if_pos c2, if_pos (Int.natCast_nonneg _), if_pos (Int.natCast_nonneg _)]
      exact h1
    · rw [portageref1_Reader_Get.l0, if_pos c0, ed, em, e1, e2, if_pos (Int.natCast_nonneg _), if_pos c2, if_pos (Int.natCast_nonneg _), if_pos (Int.natCast_nonneg _)]
      exact h2
theorem both_get (s : ByteArray) (hs : s.size ≤ 140737488351232) (p : Nat) (hp : p ≤ 10000000) (k : Int) {K : Nat} (hK : 20 ≤ K) : ∃ (x e : Int) (p' : Nat), p' ≤ p + 16 ∧ bits_Reader_Get.f K s (p : Int) k = some (x, e, s, (p' : Int)) ∧ portageref1_Reader_Get.f K s (p : Int) k = some (x, e, s, (p' : Int)) := by
  obtain ⟨m, rfl⟩ : ∃ m, K = m + 1 := ⟨K - 1, by omega⟩
  unfold bits_Reader_Get.f portageref1_Reader_Get.f
  by_cases h1 : k < 0
  · exact ⟨0, 100, p, by omega, by rw [if_pos h1, bits_Reader_Get.j0, if_pos rfl], by rw [if_pos h1, portageref1_Reader_Get.j0, if_pos rfl]⟩
  · by_cases h2 : k > 16
    · exact ⟨0, 100, p, by omega, by rw [if_neg h1, decide_eq_true h2, bits_Reader_Get.j0, if_pos rfl], by rw [if_neg h1, decide_eq_true h2, portageref1_Reader_Get.j0, if_pos rfl]⟩
    · obtain ⟨k, rfl⟩ : ∃ k' : Nat, k = (k' : Int) := ⟨k.toNat, by omega⟩
      have ew : wrap64 ((wrap64 (8 * (s.size : Int))) - (p : Int)) = 8 * (s.size : Int) - (p : Int) := by rw [w64 (n := 8 * (s.size : Int)) (by omega) (by omega), w64 (by omega) (by omega)]
      by_cases h3 : (k : Int) > 8 * (s.size : Int) - (p : Int)
      · exact ⟨0, 101, p, by omega, by rw [if_neg h1, decide_eq_false h2, bits_Reader_Get.j0, if_neg Bool.false_ne_true, ew, if_pos h3], by rw [if_neg h1, decide_eq_false h2, portageref1_Reader_Get.j0, if_neg Bool.false_ne_true, ew, if_pos h3]⟩
      · obtain ⟨x, g1, g2⟩ := both_l0 s p k (by omega) hp (by omega) k 0 0 (by omega) m (by omega)
        exact ⟨x, 0, p + k, by omega, by rw [if_neg h1, decide_eq_false h2, bits_Reader_Get.j0, if_neg Bool.false_ne_true, ew, if_neg h3]; exact g1, by rw [if_neg h1, decide_eq_false h2, portageref1_Reader_Get.j0, if_neg Bool.false_ne_true, ew, if_neg h3]; exact g2⟩
end Go.Proofs.Ytbifignggnfodaa.BW
