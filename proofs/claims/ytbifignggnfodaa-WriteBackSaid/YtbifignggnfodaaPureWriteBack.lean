import Derived.Test.YtbifignggnfodaaBitsAB
import Derived.Test.YtbifignggnfodaaB6
namespace Go.Proofs.Ytbifignggnfodaa.Pure
set_option linter.unusedVariables false
set_option linter.unusedSimpArgs false
open Go Go.RowKit Go.Proofs.Ytbifignggnfodaa.B Go.Proofs.YtbifignggnfodaaW.PrintWords Go.Proofs.YtbifignggnfodaaW.PrintLast Go.Proofs.YtbifignggnfodaaW.PrintMore Go.Proofs.Ytbifignggnfodaa.BitsM
namespace WB
/-- How many bits the i-th value has, and what it is. -/
def kk (ks : List Int) (i : Nat) : Nat := (rd ks (i : Int) % 16).toNat
def vv (xs ks : List Int) (i : Nat) : Nat := (rd xs (i : Int) % ((2 ^ kk ks i : Nat) : Int)).toNat
theorem kk_lt (ks : List Int) (i : Nat) : kk ks i < 16 := by unfold kk; omega
theorem kk_eq (ks : List Int) (i : Nat) : Go.bits .and .i64 (rd ks (i : Int)) 15 = ((kk ks i : Nat) : Int) := by
  rw [Bits.and_4]; unfold kk; omega
theorem vv_lt (xs ks : List Int) (i : Nat) : vv xs ks i < 2 ^ kk ks i := by
  unfold vv
  have h0 : 0 < 2 ^ kk ks i := Nat.pow_pos (by decide)
  generalize 2 ^ kk ks i = t at h0 ⊢
  have := Int.emod_lt_of_pos (rd xs (i : Int)) (show (0 : Int) < (t : Int) by omega)
  have := Int.emod_nonneg (rd xs (i : Int)) (show (t : Int) ≠ 0 by omega)
  omega
/-- All values from the i-th on, d of them, as one number; their bits. -/
def enc (xs ks : List Int) : Nat → Nat → Nat
  | 0, _ => 0
  | d + 1, i => vv xs ks i + 2 ^ kk ks i * enc xs ks d (i + 1)
def tot (ks : List Int) : Nat → Nat → Nat
  | 0, _ => 0
  | d + 1, i => kk ks i + tot ks d (i + 1)
theorem tot_le (ks : List Int) : ∀ d i, tot ks d i ≤ 15 * d
  | 0, _ => Nat.le_refl _
  | d + 1, i => by
    have := tot_le ks d (i + 1)
    have := kk_lt ks i
    show kk ks i + tot ks d (i + 1) ≤ _
    omega
theorem write (xs ks : List Int) (M : Nat) (hx : M ≤ xs.length) (hk : M ≤ ks.length) (hM : M ≤ 60) : ∀ (d i n N : Nat) (L : List Int), i + d = M → IsW L n N → n + 15 * d ≤ 1000 → ∀ K, 101 + d ≤ K →
    ∃ (L' : List Int) (k' : Nat), 100 ≤ k' ∧ IsW L' (n + tot ks d i) (N + enc xs ks d i * 2 ^ n) ∧ (portagelaw1_WriteBack.l1 k' xs ks (M : Int) 0 L' ((n + tot ks d i : Nat) : Int) (strOfNums L') 0 = some true → portagelaw1_WriteBack.l0 K xs ks (M : Int) (i : Int) L (n : Int) = some true)
  | 0, i, n, N, L, hi, h, hn, K, hK => by
    obtain ⟨q, rfl⟩ : ∃ q, K = q + 1 := ⟨K - 1, by omega⟩
    refine ⟨L, q, by omega, by simpa [enc, tot] using h, fun hl => ?_⟩
    rw [portagelaw1_WriteBack.l0, if_neg (by omega)]
    exact hl
  | d + 1, i, n, N, L, hi, h, hn, K, hK => by
    obtain ⟨q, rfl⟩ : ∃ q, K = q + 1 := ⟨K - 1, by omega⟩
    have hki := kk_lt ks i
    obtain ⟨L1, e1, h1⟩ := put_ok L n N (vv xs ks i) (kk ks i) h (by omega) (vv_lt xs ks i) (by omega) (K := q) (by omega)
    obtain ⟨L', k', hk', h', hl⟩ := write xs ks M hx hk hM d (i + 1) (n + kk ks i) _ L1 (by omega) h1 (by omega) q (by omega)
    have en : n + kk ks i + tot ks d (i + 1) = n + tot ks (d + 1) i := by show _ = n + (kk ks i + tot ks d (i + 1)); omega
    have eN : N + vv xs ks i * 2 ^ n + enc xs ks d (i + 1) * 2 ^ (n + kk ks i) = N + enc xs ks (d + 1) i * 2 ^ n := by
      show _ = N + (vv xs ks i + 2 ^ kk ks i * enc xs ks d (i + 1)) * 2 ^ n
      rw [Nat.pow_add, Nat.add_mul, Nat.add_assoc]
      congr 2
      ac_rfl
    rw [en] at h' hl
    rw [eN] at h'
    refine ⟨L', k', hk', h', fun hh => ?_⟩
    rw [portagelaw1_WriteBack.l0, if_pos (by omega), if_pos (by omega), if_pos (by omega), if_pos (by omega), kk_eq ks i, if_pos (by omega), mask _ _ (by omega)]
    have e1 : bits_Writer_Put.f q L (n : Int) (((rd xs (i : Int) % ((2 ^ kk ks i : Nat) : Int)).toNat : Nat) : Int) ((kk ks i : Nat) : Int) = _ := e1
    rw [e1, Option.bind_some, num1, Option.bind_some, if_pos rfl, w64 (by omega) (by omega)]
    exact hl hh
theorem read (xs ks : List Int) (M : Nat) (hx : M ≤ xs.length) (hk : M ≤ ks.length) (hM : M ≤ 60) (L : List Int) (n N : Nat) (h : IsW L n N) (hn : n ≤ 1000) : ∀ (d i p : Nat), i + d = M → p + tot ks d i = n → N / 2 ^ p = enc xs ks d i → ∀ K, 30 + d ≤ K →
    portagelaw1_WriteBack.l1 K xs ks (M : Int) (i : Int) L (n : Int) (strOfNums L) (p : Int) = some true
  | 0, i, p, hi, hp, hN, K, hK => by
    obtain ⟨q, rfl⟩ : ∃ q, K = q + 1 := ⟨K - 1, by omega⟩
    have hp : p = n := hp
    have hl := h.len
    have hz : (strOfNums L).size = L.length := strOfNums_size L
    have ed : Int.tdiv ((n + 7 : Nat) : Int) 8 = (((n + 7) / 8 : Nat) : Int) := tdivN (n + 7) 8
    rw [portagelaw1_WriteBack.l1, if_neg (by omega), bits_Reader_At.f, Option.bind_some, bits_Writer_Len.f, Option.bind_some]
    dsimp only
    rw [if_pos (by omega), bits_Writer_Text.f, Option.bind_some, bits_Writer_Len.f, Option.bind_some]
    dsimp only
    rw [hz, w64 (n := (n : Int) + 7) (by omega) (by omega), show (n : Int) + 7 = ((n + 7 : Nat) : Int) from by omega, ed, w64 (by omega) (by omega), hl]
    simp
  | d + 1, i, p, hi, hp, hN, K, hK => by
    obtain ⟨q, rfl⟩ : ∃ q, K = q + 1 := ⟨K - 1, by omega⟩
    have hki := kk_lt ks i
    have hl := h.len
    have hp : p + (kk ks i + tot ks d (i + 1)) = n := hp
    have hN : N / 2 ^ p = vv xs ks i + 2 ^ kk ks i * enc xs ks d (i + 1) := hN
    have hv := vv_lt xs ks i
    have hm : N / 2 ^ p % 2 ^ kk ks i = vv xs ks i := by rw [hN, Nat.add_mul_mod_self_left, Nat.mod_eq_of_lt hv]
    have hd : N / 2 ^ (p + kk ks i) = enc xs ks d (i + 1) := by
      rw [Nat.pow_add, ← Nat.div_div_eq_div_mul, hN, Nat.add_mul_div_left _ _ (Nat.pow_pos (by decide)), Nat.div_eq_of_lt hv, Nat.zero_add]
    have ih := read xs ks M hx hk hM L n N h hn d (i + 1) (p + kk ks i) (by omega) (by omega) hd q (by omega)
    have hg := get_ok h.b (by omega) p (kk ks i) (by omega) (by omega) (K := q) (by omega)
    rw [h.e, hm] at hg
    rw [portagelaw1_WriteBack.l1, if_pos (by omega), if_pos (by omega), if_pos (by omega), kk_eq ks i, hg, Option.bind_some]
    dsimp only
    rw [num1, Option.bind_some, if_pos rfl, if_pos (by omega), if_pos (by omega), mask _ _ (by omega), if_pos (show ((vv xs ks i : Nat) : Int) = (((rd xs (i : Int) % ((2 ^ kk ks i : Nat) : Int)).toNat : Nat) : Int) from rfl), w64 (by omega) (by omega)]
    exact ih
end WB
open WB in
theorem WriteBack : portagelaw1_WriteBack.Pure := by
  intro xs ks _ _ _ _ _ _
  obtain ⟨L', k', hk', h', hl⟩ := write xs ks (min (min xs.length ks.length) 60) (by omega) (by omega) (by omega) (min (min xs.length ks.length) 60) 0 0 0 [] (by omega) IsW.nil (by omega) 200 (by omega)
  refine ⟨200, ?_⟩
  have ht := tot_le ks (min (min xs.length ks.length) 60) 0
  unfold portagelaw1_WriteBack.f
  rw [awake_true (by omega), Option.bind_some, if_pos rfl, mn_nat, show (60 : Int) = ((60 : Nat) : Int) from rfl, mn_nat]
  refine hl ?_
  rw [Nat.zero_add, Nat.pow_zero, Nat.mul_one, Nat.zero_add] at h'
  rw [Nat.zero_add]
  exact read xs ks _ (by omega) (by omega) (by omega) L' _ _ h' (by omega) _ 0 0 (Nat.zero_add _) (Nat.zero_add _) (by rw [Nat.pow_zero, Nat.div_one]) k' (by omega)
end Go.Proofs.Ytbifignggnfodaa.Pure
