import Derived.Test.YtbifignggnfodaaBitsABW
import Derived.Test.YtbifignggnfodaaBitsRBW
import Derived.Test.YtbifignggnfodaaBW11
import Derived.Test.YtbifignggnfodaaBWOWrites
namespace Go.Proofs.Ytbifignggnfodaa.Pure
set_option linter.unusedVariables false
set_option linter.unusedSimpArgs false
open Go Go.RowKit Go.Proofs.Ytbifignggnfodaa.BW Go.Proofs.YtbifignggnfodaaW.PrintWords Go.Proofs.YtbifignggnfodaaW.PrintLast Go.Proofs.YtbifignggnfodaaW.PrintMore Go.Proofs.Ytbifignggnfodaa.BitsM
namespace WR
/-- A put: both do the same. -/
theorem put_both (L : List Int) (n N : Nat) (V k : Int) (h : IsW L n N) (hn : n ≤ 60000) {K : Nat} (hK : 20 ≤ K) : ∃ (e : Int) (L' : List Int) (n' N' : Nat), n' ≤ n + 16 ∧ IsW L' n' N' ∧ bits_Writer_Put.f K L (n : Int) V k = some (e, L', (n' : Int)) ∧ portageref1_Writer_Put.f K L (n : Int) V k = some (e, L', (n' : Int)) := by
  by_cases hc : 0 ≤ k ∧ k ≤ 16 ∧ 0 ≤ V ∧ V < ((2 ^ k.toNat : Nat) : Int) ∧ (n : Int) + k ≤ 65536
  · obtain ⟨h1, h2, h3, h4, h5⟩ := hc
    obtain ⟨k, rfl⟩ : ∃ k' : Nat, k = (k' : Int) := ⟨k.toNat, by omega⟩
    obtain ⟨V, rfl⟩ : ∃ V' : Nat, V = (V' : Int) := ⟨V.toNat, by omega⟩
    rw [Int.toNat_natCast] at h4
    have hk : k ≤ 16 := by omega
    have hV : V < 2 ^ k := Int.ofNat_lt.mp h4
    have hnk : n + k ≤ 65536 := by omega
    obtain ⟨L1, e1, i1⟩ := put_ok L n N V k h hk hV hnk hK
    obtain ⟨L2, e2, i2⟩ := refput_ok L n N V k h hk hV hnk hK
    have hl1 := i1.len
    have hl2 := i2.len
    have hu : L2 = L1 := uniq L2 L1 i2.b i1.b (hl2.trans hl1.symm) (i2.e.trans i1.e.symm)
    subst hu
    exact ⟨0, L2, n + k, _, by omega, i2, e1, e2⟩
  · exact ⟨100, L, n, N, by omega, h, put_no L n V k (by omega) hc K, refput_no L n V k (by omega) hc (by omega)⟩
theorem code_both (L : List Int) (n N : Nat) (V k : Int) (h : IsW L n N) (hn : n ≤ 60000) {K : Nat} (hK : 20 ≤ K) : ∃ (e : Int) (L' : List Int) (n' N' : Nat), n' ≤ n + 16 ∧ IsW L' n' N' ∧ bits_Writer_Code.f K L (n : Int) k V = some (e, L', (n' : Int)) ∧ portageref1_Writer_Code.f K L (n : Int) k V = some (e, L', (n' : Int)) := by
  by_cases hc : 1 ≤ k ∧ k ≤ 15 ∧ 0 ≤ V ∧ V < ((2 ^ k.toNat : Nat) : Int) ∧ (n : Int) + k ≤ 65536
  · obtain ⟨h1, h2, h3, h4, h5⟩ := hc
    obtain ⟨k, rfl⟩ : ∃ k' : Nat, k = (k' : Int) := ⟨k.toNat, by omega⟩
    obtain ⟨V, rfl⟩ : ∃ V' : Nat, V = (V' : Int) := ⟨V.toNat, by omega⟩
    rw [Int.toNat_natCast] at h4
    have hk : 1 ≤ k ∧ k ≤ 15 := by omega
    have hV : V < 2 ^ k := Int.ofNat_lt.mp h4
    have hnk : n + k ≤ 65536 := by omega
    obtain ⟨L1, e1, i1⟩ := code_ok L n N V k h hk hV hnk hK
    obtain ⟨L2, e2, i2⟩ := refcode_ok L n N V k h hk hV hnk hK
    have hl1 := i1.len
    have hl2 := i2.len
    have hu : L2 = L1 := uniq L2 L1 i2.b i1.b (hl2.trans hl1.symm) (i2.e.trans i1.e.symm)
    subst hu
    exact ⟨0, L2, n + k, _, by omega, i2, e1, e2⟩
  · exact ⟨100, L, n, N, by omega, h, code_no L n V k (by omega) hc K, refcode_no L n V k (by omega) hc (by omega)⟩
theorem reads (gs : List Int) (s : ByteArray) (hs : s.size ≤ 140737488351232) (hg : gs.length ≤ 4611686018427387904) : ∀ (d i p : Nat), i + d = 100 → p ≤ 32 * i → ∀ K, 100 + 2 * d ≤ K → portagelaw1_Writes.l1 K gs (i : Int) s (p : Int) s (p : Int) = some true := by
  have stop : ∀ (i p : Nat) (K : Nat), 61 ≤ K → portagelaw1_Writes.j3 K gs (i : Int) false s (p : Int) s (p : Int) = some true := fun i p K hK => by
    obtain ⟨q, rfl⟩ : ∃ q, K = q + 1 := ⟨K - 1, by omega⟩
    rw [portagelaw1_Writes.j3, if_neg Bool.false_ne_true, awake_true (by omega), Option.bind_some]
  intro d
  induction d with
  | zero =>
    intro i p hi hp K hK
    obtain ⟨q, rfl⟩ : ∃ q, K = q + 1 := ⟨K - 1, by omega⟩
    rw [portagelaw1_Writes.l1]
    by_cases h : (i : Int) < (gs.length : Int)
    · rw [if_pos h, decide_eq_false (p := (i : Int) < 100) (by omega)]
      exact stop i p q (by omega)
    · rw [if_neg h]
      exact stop i p q (by omega)
  | succ d ih =>
    intro i p hi hp K hK
    obtain ⟨q, rfl⟩ : ∃ q, K = q + 1 + 1 := ⟨K - 2, by omega⟩
    rw [portagelaw1_Writes.l1]
    by_cases h : (i : Int) < (gs.length : Int)
    · have hw : wrap64 ((i : Int) + 1) = ((i + 1 : Nat) : Int) := by rw [w64 (by omega) (by omega)]; omega
      rw [if_pos h, decide_eq_true (p := (i : Int) < 100) (by omega), portagelaw1_Writes.j3, if_pos rfl, if_pos (by omega), if_pos h, hw]
      by_cases h9 : rd gs (i : Int) = 99
      · rw [if_pos h9, align_r s p (by omega), Option.bind_some]
        dsimp only
        rw [num1, Option.bind_some, if_pos rfl, refalign_r s p (by omega), Option.bind_some]
        exact ih (i + 1) ((p + 7) / 8 * 8) (by omega) (by omega) q (by omega)
      · obtain ⟨x, e, p', hp', g1, g2⟩ := both_get s hs p (by omega) (rd gs (i : Int)) (K := q) (by omega)
        rw [if_neg h9, g1, Option.bind_some, g2, Option.bind_some]
        dsimp only
        rw [if_pos rfl, num1, Option.bind_some, if_pos rfl, at_k, Option.bind_some]
        dsimp only
        rw [if_pos rfl]
        exact ih (i + 1) p' (by omega) (by omega) q (by omega)
    · rw [if_neg h]
      exact stop i p (q + 1) (by omega)
theorem writes (ps : List S58) (s : ByteArray) (gs : List Int) (hs : s.size ≤ 140737488351232) (hg : gs.length ≤ 4611686018427387904) (hp : ps.length ≤ 4611686018427387904) : ∀ (d i n N : Nat) (L : List Int), i + d = 200 → IsW L n N → n ≤ 32 * i → ∀ K, 400 + 2 * d ≤ K → portagelaw1_Writes.l0 K ps s gs (i : Int) L (n : Int) L (n : Int) = some true := by
  have stop : ∀ (i n : Nat) (L : List Int) (K : Nat), 390 ≤ K → portagelaw1_Writes.j1 K ps s gs (i : Int) false L (n : Int) L (n : Int) = some true := fun i n L K hK => by
    obtain ⟨q, rfl⟩ : ∃ q, K = q + 1 := ⟨K - 1, by omega⟩
    rw [portagelaw1_Writes.j1, if_neg Bool.false_ne_true, text_k, Option.bind_some]
    dsimp only
    rw [portageref1_Writer_Text.f, Option.bind_some]
    dsimp only
    rw [if_pos rfl]
    exact reads gs s hs hg 100 0 0 rfl (by omega) q (by omega)
  intro d
  induction d with
  | zero =>
    intro i n N L hi h hn K hK
    obtain ⟨q, rfl⟩ : ∃ q, K = q + 1 := ⟨K - 1, by omega⟩
    rw [portagelaw1_Writes.l0]
    by_cases hl : (i : Int) < (ps.length : Int)
    · rw [if_pos hl, decide_eq_false (p := (i : Int) < 200) (by omega)]
      exact stop i n L q (by omega)
    · rw [if_neg hl]
      exact stop i n L q (by omega)
  | succ d ih =>
    intro i n N L hi h hn K hK
    obtain ⟨q, rfl⟩ : ∃ q, K = q + 1 + 1 := ⟨K - 2, by omega⟩
    rw [portagelaw1_Writes.l0]
    by_cases hl : (i : Int) < (ps.length : Int)
    · have hw : wrap64 ((i : Int) + 1) = ((i + 1 : Nat) : Int) := by rw [w64 (by omega) (by omega)]; omega
      rw [if_pos hl, decide_eq_true (p := (i : Int) < 200) (by omega), portagelaw1_Writes.j1, if_pos rfl, if_pos (by omega), if_pos hl, hw]
      generalize rd_T58 ps (i : Int) = x
      by_cases h0 : x.f0 = 0
      · obtain ⟨e, L', n', N', hn', i', e1, e2⟩ := put_both L n N x.f1 x.f2 h (by omega) (K := q) (by omega)
        rw [if_pos h0, e1, Option.bind_some]
        dsimp only
        rw [num1, Option.bind_some, e2, Option.bind_some]
        dsimp only
        rw [if_pos rfl, len_k, Option.bind_some]
        dsimp only
        rw [if_pos rfl]
        exact ih (i + 1) n' N' L' (by omega) i' (by omega) q (by omega)
      · rw [if_neg h0]
        by_cases h1 : x.f0 = 1
        · obtain ⟨e, L', n', N', hn', i', e1, e2⟩ := code_both L n N x.f1 x.f2 h (by omega) (K := q) (by omega)
          rw [if_pos h1, e1, Option.bind_some]
          dsimp only
          rw [num1, Option.bind_some, e2, Option.bind_some]
          dsimp only
          rw [if_pos rfl, len_k, Option.bind_some]
          dsimp only
          rw [if_pos rfl]
          exact ih (i + 1) n' N' L' (by omega) i' (by omega) q (by omega)
        · have hlen := h.len
          rw [if_neg h1, align_w L n N h (by omega), Option.bind_some]
          dsimp only
          rw [num1, Option.bind_some, if_pos rfl, refalign_k L n N h (by omega) (by omega), Option.bind_some]
          dsimp only
          rw [len_k, Option.bind_some]
          dsimp only
          rw [if_pos rfl]
          exact ih (i + 1) (8 * L.length) N L (by omega) h.up (by omega) q (by omega)
    · rw [if_neg hl]
      exact stop i n L (q + 1) (by omega)
end WR
open WR in
theorem Writes : portagelaw1_Writes.Pure := by
  intro ps s gs hp hs hg
  have hp1 := hp.1
  have hg1 := hg.1
  exact ⟨1000, writes ps s gs hs (by omega) (by omega) 200 0 0 0 [] rfl IsW.nil (by omega) 1000 (by omega)⟩
end Go.Proofs.Ytbifignggnfodaa.Pure
