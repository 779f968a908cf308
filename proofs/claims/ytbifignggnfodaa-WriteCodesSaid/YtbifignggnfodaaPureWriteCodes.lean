import Derived.Test.YtbifignggnfodaaBitsAB
import Derived.Test.YtbifignggnfodaaB8
namespace Go.Proofs.Ytbifignggnfodaa.Pure
set_option linter.unusedVariables false
set_option linter.unusedSimpArgs false
open Go Go.RowKit Go.Proofs.Ytbifignggnfodaa.B Go.Proofs.YtbifignggnfodaaW.PrintWords Go.Proofs.YtbifignggnfodaaW.PrintLast Go.Proofs.YtbifignggnfodaaW.PrintMore Go.Proofs.Ytbifignggnfodaa.BitsM
namespace WC
/-- How many bits the i-th code has, and what it is. -/
def kk (xs : List Int) (i : Nat) : Nat := 1 + (rd xs (i : Int) % 8).toNat
def vv (xs : List Int) (i : Nat) : Nat := ((rd xs (i : Int) / 8) % ((2 ^ kk xs i : Nat) : Int)).toNat
theorem kk_lt (xs : List Int) (i : Nat) : 1 ≤ kk xs i ∧ kk xs i ≤ 8 := by unfold kk; omega
theorem kk_eq (xs : List Int) (i : Nat) : wrap64 (1 + Go.bits .and .i64 (rd xs (i : Int)) 7) = ((kk xs i : Nat) : Int) := by
  rw [Bits.and_3, w64 (by omega) (by omega)]; unfold kk; omega
theorem vv_eq (xs : List Int) (i : Nat) : Go.bits .and .i64 (rd xs (i : Int) / 8) (wrap64 ((shl .i64 1 ((kk xs i : Nat) : Int)) - 1)) = ((vv xs i : Nat) : Int) := mask _ _ (by have := kk_lt xs i; omega)
theorem vv_lt (xs : List Int) (i : Nat) : vv xs i < 2 ^ kk xs i := toNat_lt _ _
def enc (xs : List Int) : Nat → Nat → Nat
  | 0, _ => 0
  | d + 1, i => rv (kk xs i) (vv xs i) + 2 ^ kk xs i * enc xs d (i + 1)
def tot (xs : List Int) : Nat → Nat → Nat
  | 0, _ => 0
  | d + 1, i => kk xs i + tot xs d (i + 1)
theorem tot_le (xs : List Int) : ∀ d i, tot xs d i ≤ 8 * d
  | 0, _ => Nat.le_refl _
  | d + 1, i => by
    have := tot_le xs d (i + 1)
    have := kk_lt xs i
    show kk xs i + tot xs d (i + 1) ≤ _
    omega
theorem write (xs : List Int) (M : Nat) (hx : M ≤ xs.length) (hM : M ≤ 40) : ∀ (d i n N : Nat) (L : List Int), i + d = M → IsW L n N → n + 8 * d ≤ 1000 → ∀ K, 701 + d ≤ K →
    ∃ (L' : List Int) (k' : Nat), 700 ≤ k' ∧ IsW L' (n + tot xs d i) (N + enc xs d i * 2 ^ n) ∧ (portagelaw1_WriteCodes.l1 k' xs (M : Int) 0 L' ((n + tot xs d i : Nat) : Int) (strOfNums L') 0 = some true → portagelaw1_WriteCodes.l0 K xs (M : Int) (i : Int) L (n : Int) = some true)
  | 0, i, n, N, L, hi, h, hn, K, hK => by
    obtain ⟨q, rfl⟩ : ∃ q, K = q + 1 := ⟨K - 1, by omega⟩
    refine ⟨L, q, by omega, by simpa [enc, tot] using h, fun hl => ?_⟩
    rw [portagelaw1_WriteCodes.l0, if_neg (by omega)]
    exact hl
  | d + 1, i, n, N, L, hi, h, hn, K, hK => by
    obtain ⟨q, rfl⟩ : ∃ q, K = q + 1 := ⟨K - 1, by omega⟩
    have hki := kk_lt xs i
    obtain ⟨L1, e1, h1⟩ := code_ok L n N (vv xs i) (kk xs i) h (by omega) (vv_lt xs i) (by omega) (K := q) (by omega)
    obtain ⟨L', k', hk', h', hl⟩ := write xs M hx hM d (i + 1) (n + kk xs i) _ L1 (by omega) h1 (by omega) q (by omega)
    have en : n + kk xs i + tot xs d (i + 1) = n + tot xs (d + 1) i := by show _ = n + (kk xs i + tot xs d (i + 1)); omega
    have eN : N + rv (kk xs i) (vv xs i) * 2 ^ n + enc xs d (i + 1) * 2 ^ (n + kk xs i) = N + enc xs (d + 1) i * 2 ^ n := by
      show _ = N + (rv (kk xs i) (vv xs i) + 2 ^ kk xs i * enc xs d (i + 1)) * 2 ^ n
      rw [Nat.pow_add, Nat.add_mul, Nat.add_assoc]
      congr 2
      ac_rfl
    rw [en] at h' hl
    rw [eN] at h'
    refine ⟨L', k', hk', h', fun hh => ?_⟩
    rw [portagelaw1_WriteCodes.l0, if_pos (by omega), if_pos (by omega), if_pos (by omega), kk_eq xs i, if_pos (by omega), vv_eq xs i, e1, Option.bind_some]
    dsimp only
    rw [num1, Option.bind_some, if_pos rfl, w64 (by omega) (by omega)]
    exact hl hh
theorem inner (xs : List Int) (M i : Nat) (hi : i < xs.length) (hM : M ≤ 40) (hiM : i < M) (L : List Int) (n N : Nat) (h : IsW L n N) (hn : n ≤ 1000) : ∀ (m p E : Nat), m ≤ kk xs i → p + m ≤ n → N / 2 ^ p = rv m (vv xs i) + 2 ^ m * E → ∀ K, 50 + m ≤ K →
    ∃ k', k' + m + 1 = K ∧ N / 2 ^ (p + m) = E ∧ (portagelaw1_WriteCodes.l1 k' xs (M : Int) ((i + 1 : Nat) : Int) L (n : Int) (strOfNums L) ((p + m : Nat) : Int) = some true → portagelaw1_WriteCodes.l2 K xs (M : Int) (i : Int) ((kk xs i : Nat) : Int) ((m : Int) - 1) L (n : Int) (strOfNums L) (p : Int) = some true)
  | 0, p, E, hm, hp, hN, K, hK => by
    obtain ⟨q, rfl⟩ : ∃ q, K = q + 1 := ⟨K - 1, by omega⟩
    refine ⟨q, by omega, by simpa [rv] using hN, fun hl => ?_⟩
    rw [portagelaw1_WriteCodes.l2, if_neg (by omega), w64 (by omega) (by omega)]
    exact hl
  | m + 1, p, E, hm, hp, hN, K, hK => by
    obtain ⟨q, rfl⟩ : ∃ q, K = q + 1 := ⟨K - 1, by omega⟩
    have hki := kk_lt xs i
    have hl := h.len
    have hN : N / 2 ^ p = (vv xs i / 2 ^ m % 2 + 2 * rv m (vv xs i)) + 2 ^ (m + 1) * E := hN
    have hb : vv xs i / 2 ^ m % 2 < 2 := Nat.mod_lt _ (by decide)
    have hmul : 2 ^ (m + 1) * E = 2 * (2 ^ m * E) := by rw [Nat.pow_succ]; ac_rfl
    have h1 : N / 2 ^ p % 2 ^ 1 = vv xs i / 2 ^ m % 2 := by rw [hN, hmul]; omega
    have h2 : N / 2 ^ (p + 1) = rv m (vv xs i) + 2 ^ m * E := by
      rw [Nat.pow_succ, ← Nat.div_div_eq_div_mul, hN, hmul]; omega
    obtain ⟨k', hk', hE, hh⟩ := inner xs M i hi hM hiM L n N h hn m (p + 1) E (by omega) (by omega) h2 q (by omega)
    rw [show p + 1 + m = p + (m + 1) from by omega] at hE hh
    refine ⟨k', by omega, hE, fun hx => ?_⟩
    have hg := get_ok h.b (by omega) p 1 (by omega) (by omega) (K := q) (by omega)
    rw [h.e, h1] at hg
    have hg : bits_Reader_Get.f q (strOfNums L) (p : Int) 1 = _ := hg
    have ho := one_of (vv xs i) m (by omega)
    rw [portagelaw1_WriteCodes.l2, if_pos (by omega), hg, Option.bind_some]
    dsimp only
    rw [num1, Option.bind_some, if_pos rfl, if_pos (by omega), if_pos (by omega), if_pos (by omega), if_pos (by omega), vv_eq xs i, show (((m + 1 : Nat) : Int) - 1) = (m : Int) from by omega, ho, if_pos rfl, w64 (by omega) (by omega)]
    exact hh hx
theorem read (xs : List Int) (M : Nat) (hx : M ≤ xs.length) (hM : M ≤ 40) (L : List Int) (n N : Nat) (h : IsW L n N) (hn : n ≤ 1000) : ∀ (d i p : Nat), i + d = M → p + tot xs d i = n → N / 2 ^ p = enc xs d i → ∀ K, 70 + 12 * d ≤ K →
    portagelaw1_WriteCodes.l1 K xs (M : Int) (i : Int) L (n : Int) (strOfNums L) (p : Int) = some true
  | 0, i, p, hi, hp, hN, K, hK => by
    obtain ⟨q, rfl⟩ : ∃ q, K = q + 1 := ⟨K - 1, by omega⟩
    have hp : p = n := hp
    rw [portagelaw1_WriteCodes.l1, if_neg (by omega), at_k, Option.bind_some, len_k, Option.bind_some, hp]
    simp
  | d + 1, i, p, hi, hp, hN, K, hK => by
    obtain ⟨q, rfl⟩ : ∃ q, K = q + 1 := ⟨K - 1, by omega⟩
    have hki := kk_lt xs i
    have hp : p + (kk xs i + tot xs d (i + 1)) = n := hp
    obtain ⟨k', hk', hE, hh⟩ := inner xs M i (by omega) hM (by omega) L n N h hn (kk xs i) p (enc xs d (i + 1)) (Nat.le_refl _) (by omega) hN q (by omega)
    have ih := read xs M hx hM L n N h hn d (i + 1) (p + kk xs i) (by omega) (by omega) hE k' (by omega)
    rw [portagelaw1_WriteCodes.l1, if_pos (by omega), if_pos (by omega), if_pos (by omega), kk_eq xs i, w64 (by omega) (by omega)]
    exact hh ih
end WC
open WC in
theorem WriteCodes : portagelaw1_WriteCodes.Pure := by
  intro xs _ _ _
  obtain ⟨L', k', hk', h', hl⟩ := write xs (min xs.length 40) (by omega) (by omega) (min xs.length 40) 0 0 0 [] (by omega) IsW.nil (by omega) 800 (by omega)
  refine ⟨800, ?_⟩
  have ht := tot_le xs (min xs.length 40) 0
  unfold portagelaw1_WriteCodes.f
  rw [awake_true (by omega), Option.bind_some, if_pos rfl, show (40 : Int) = ((40 : Nat) : Int) from rfl, mn_nat]
  refine hl ?_
  rw [Nat.zero_add, Nat.pow_zero, Nat.mul_one, Nat.zero_add] at h'
  rw [Nat.zero_add]
  exact read xs _ (by omega) (by omega) L' _ _ h' (by omega) _ 0 0 (Nat.zero_add _) (Nat.zero_add _) (by rw [Nat.pow_zero, Nat.div_one]) k' (by omega)
end Go.Proofs.Ytbifignggnfodaa.Pure
