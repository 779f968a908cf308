import Derived.Test.YtnjbbfcknijcnaaExtraRX
import Derived.Test.YtnjbbfcknijcnaaX11
import Derived.Test.YtnjbbfcknijcnaaX10
import Derived.Test.YtnjbbfcknijcnaaXOExtras
namespace Go.Proofs.Ytnjbbfcknijcnaa.Pure
set_option linter.unusedVariables false
set_option linter.unusedSimpArgs false
open Go.RowKit Go.Proofs.Ytnjbbfcknijcnaa.X Go.Proofs.YtnjbbfcknijcnaaW.PrintWords Go.Proofs.YtnjbbfcknijcnaaW.PrintLast Go.Proofs.YtnjbbfcknijcnaaW.PrintMore
namespace Extras
theorem awake_true {k : Nat} (hk : 150 ≤ k) : portagelaw12_awake.f k = some true := at_rounds (g := fun k => portagelaw12_awake.f k) portagelaw12_awake.mono hk (by decide +kernel)
theorem num1 (n : Int) : portagelaw0_Num.f n = some n := rfl
theorem sameE (n : ByteArray) (g : Bool) (v : List Int) (a b c : Int) (p : ByteArray) (z d : Int) (hv : v.length ≤ 4611686018427387904) {k : Nat} (hk : v.length + 1 ≤ k) : portagelaw0_SameEntry.f k n g v a b c p z d n g v a b c p z d = some true := by
  unfold portagelaw0_SameEntry.f
  rw [if_pos rfl, if_pos (by simp), same_k v v (by omega) (by omega), decide_eq_true rfl, Option.bind_some, if_pos rfl, if_pos rfl, if_pos rfl, if_pos rfl, if_pos rfl, if_pos rfl]
  simp
theorem spoil_l0 : ∀ (d i : Nat) (x : List Int), i + d = x.length → x.length ≤ 4611686018427387904 → ∀ K, d + 1 ≤ K → ∃ y, portagelaw0_SpoilInts.l0 K x (i : Int) = some y
  | 0, i, x, hi, hl, K, hK => by
    obtain ⟨q, rfl⟩ : ∃ q, K = q + 1 := ⟨K - 1, by omega⟩
    exact ⟨x, by rw [portagelaw0_SpoilInts.l0, if_neg (by omega)]⟩
  | d + 1, i, x, hi, hl, K, hK => by
    obtain ⟨q, rfl⟩ : ∃ q, K = q + 1 := ⟨K - 1, by omega⟩
    obtain ⟨y, hy⟩ := spoil_l0 d (i + 1) (x.set (i : Int).toNat (wrap64 ((-9) - (rd x (i : Int))))) (by rw [List.length_set]; omega) (by rw [List.length_set]; omega) q (by omega)
    refine ⟨y, ?_⟩
    rw [portagelaw0_SpoilInts.l0, if_pos (by omega), if_pos (by omega), w64 (n := (i : Int) + 1) (by omega) (by omega)]
    exact hy
theorem spoil_k (n : ByteArray) (g : Bool) (v : List Int) (a b c : Int) (p : ByteArray) (z d : Int) (hv : v.length ≤ 4611686018427387904) {k : Nat} (hk : v.length + 1 ≤ k) : ∃ y, portagelaw0_SpoilEntry.f k n g v a b c p z d = some y := by
  obtain ⟨y, hy⟩ := spoil_l0 v.length 0 v (by omega) hv k hk
  have hy : portagelaw0_SpoilInts.l0 k v 0 = some y := hy
  refine ⟨y, ?_⟩
  unfold portagelaw0_SpoilEntry.f portagelaw0_SpoilInts.f
  rw [hy, Option.bind_some]
/-- Both read the same out of any text. -/
theorem both (s : ByteArray) {k : Nat} (hk : 300 ≤ k) : ∃ n g v a b c p z d e, extra_Get.f k s = some (n, g, v, a, b, c, p, z, d, e) ∧ portageref10_GetExtra.f k s = some (n, g, v, a, b, c, p, z, d, e) ∧ v.length ≤ 4 := by
  obtain ⟨g, v, a, b, h⟩ := get_any s (k := k) (by omega)
  by_cases hc : mayE v a b = true ∧ (strOfNums (putL v a b g)).toList = s.toList
  · have hs : s = strOfNums (putL v a b g) := by
      have := hc.2
      apply Go.WideShapes.bytes_inj
      rw [ByteArray.toList_eq, ByteArray.toList_eq] at this
      exact this.symm
    unfold fin at h
    rw [if_pos hc] at h
    refine ⟨_, _, _, _, _, _, _, _, _, _, h, ?_, ?_⟩
    · rw [hs]
      exact refget_put v a b g hc.1 (by omega)
    · rw [(mayE_parts hc.1).1]; omega
  · unfold fin at h
    rw [if_neg hc] at h
    refine ⟨_, _, _, _, _, _, _, _, _, _, h, ?_, Nat.zero_le _⟩
    by_cases hz : s.size = 26
    · obtain ⟨g', v', a', b', h'⟩ := refget_any s hz (k := k) (by omega)
      by_cases hc' : mayE v' a' b' = true ∧ (strOfNums (putL v' a' b' g')).toList = s.toList
      · have hs : s = strOfNums (putL v' a' b' g') := by
          have := hc'.2
          apply Go.WideShapes.bytes_inj
          rw [ByteArray.toList_eq, ByteArray.toList_eq] at this
          exact this.symm
        have hg := get_put v' a' b' g' hc'.1 (k := k) (by omega)
        rw [← hs, h] at hg
        simp only [Option.some.injEq, Prod.mk.injEq] at hg
        exact absurd hg.2.2.2.2.2.2.2.2.2 (by decide)
      · unfold fin at h'
        rw [if_neg hc'] at h'
        exact h'
    · unfold portageref10_GetExtra.f
      rw [if_neg (by omega)]
end Extras
open Extras in
theorem Extras : portagelaw12_Extras.Pure := by
  intro n g v a b c p z d s hS _
  have hv : v.length * 8 ≤ 140737488351232 := hS.2.2.1.1
  refine ⟨v.length + 5000, ?_⟩
  obtain ⟨n', g', v', a', b', c', p', z', d', e', h1, h2, h3⟩ := both s (k := v.length + 5000) (by omega)
  obtain ⟨y, hy⟩ := spoil_k n' g' v' a' b' c' p' z' d' (by omega) (k := v.length + 4999) (by omega)
  unfold portagelaw12_Extras.f portagelaw0_CopyEntry.f
  rw [Option.bind_some, if_pos (by simp only [List.length_nil]; omega), Option.bind_some, List.nil_append]
  dsimp only
  rw [put_k _ _ _ _ _ _ _ _ _ (by omega), Option.bind_some, refput_k _ _ _ _ _ _ _ _ _ (by omega) (by omega), Option.bind_some, h1, Option.bind_some, h2, Option.bind_some]
  dsimp only
  rw [if_pos rfl, num1, Option.bind_some, if_pos rfl, sameE _ _ _ _ _ _ _ _ _ (by omega) (by omega), Option.bind_some, if_pos rfl, num1, Option.bind_some, show (e' != e') = false from by simp]
  rw [portagelaw12_Extras.j0, if_neg (by decide), hy, Option.bind_some, sameE _ _ _ _ _ _ _ _ _ (by omega) (by omega), Option.bind_some, if_pos rfl, awake_true (by omega), Option.bind_some]
end Go.Proofs.Ytnjbbfcknijcnaa.Pure
