import Derived.Test.YtbifignggnfodaaTabLT
import Derived.Test.YtbifignggnfodaaT5
namespace Go.Proofs.Ytbifignggnfodaa.Pure
set_option linter.unusedVariables false
set_option linter.unusedSimpArgs false
open Go Go.RowKit Go.Proofs.Ytbifignggnfodaa.T Go.Proofs.YtbifignggnfodaaW.PrintWords Go.Proofs.YtbifignggnfodaaW.PrintLast Go.Proofs.YtbifignggnfodaaW.PrintMore
namespace TabB
/-- a length, its symbol, the symbol's least, and the next length's symbol -/
theorem len_all (x : Int) (h1 : 3 ≤ x) (h2 : x ≤ 258) (K : Nat) (hK : 40 ≤ K) : ∃ s b v l s' b'' v'', (∀ K', 40 ≤ K' → table_Length.f K' x = some (s, b, v, 0)) ∧ (∀ K', 40 ≤ K' → table_LengthOf.f K' s = some (l, b, 0)) ∧ table_Length.f K (mn (wrap64 (x + 1)) 258) = some (s', b'', v'', 0) ∧ 0 ≤ b ∧ b ≤ 5 ∧ wrap64 (l + v) = x ∧ 0 ≤ v ∧ v < shl .i64 1 b ∧ s ≤ s' ∧ s' ≤ wrap64 (s + 1) := by
  rw [w64 (by omega) (by omega)]
  by_cases h258 : x = 258
  · subst h258
    refine ⟨285, 0, 0, 258, 285, 0, 0, fun K' hK' => len_last (by omega), fun K' hK' => lenOf_last (by omega), ?_, by decide, by decide, by decide +kernel, by decide, by decide +kernel, by decide, by decide +kernel⟩
    rw [show mn (258 + 1) 258 = 258 from by decide +kernel]
    exact len_last (by omega)
  obtain ⟨t, ht, a, b, e⟩ := len_at x h1 (by omega) hK
  obtain ⟨hsh, hb0, hb1⟩ := shl_Bl t ht
  have hin := Ll_in t (by omega)
  have hall : ∀ K', 40 ≤ K' → table_Length.f K' x = some (((257 + t : Nat) : Int), Bl t, x - Ll t, 0) := by
    intro K' hK'
    obtain ⟨t', ht', a', b', e'⟩ := len_at x h1 (by omega) hK'
    have : t' = t := by
      rcases Nat.lt_trichotomy t' t with h | h | h
      · have := Ll_mono (t' + 1) (by omega) t (by omega) h
        omega
      · exact h
      · have := Ll_mono (t + 1) (by omega) t' (by omega) h
        omega
    subst this
    exact e'
  have hmn : mn (x + 1) 258 = x + 1 := by unfold mn; split <;> omega
  rw [hmn]
  by_cases h257 : x = 257
  · subst h257
    have : t = 27 := by
      have h27 : Ll 27 = 227 := by decide +kernel
      rcases Nat.lt_or_ge t 27 with h | h
      · have := Ll_mono (t + 1) (by omega) 27 (by omega) h
        omega
      · omega
    refine ⟨_, _, _, Ll t, 285, 0, 0, hall, fun K' hK' => lenOf_at (by omega) t ht, len_last (by omega), hb0, hb1, ?_, by omega, by omega, by omega, ?_⟩
    · rw [w64 (by omega) (by omega)]; omega
    · rw [w64 (by omega) (by omega)]; omega
  obtain ⟨t', ht', a', b', e'⟩ := len_at (x + 1) (by omega) (by omega) hK
  have htt : t ≤ t' := by
    rcases Nat.lt_or_ge t' t with h | h
    · have := Ll_mono (t' + 1) (by omega) t (by omega) h
      omega
    · exact h
  have htt' : t' ≤ t + 1 := by
    rcases Nat.lt_or_ge (t + 1) t' with h | h
    · have := Ll_mono (t + 1 + 1) (by omega) t' (by omega) h
      have h3 : Ll (t + 1) < Ll (t + 1 + 1) := by
        have : ∀ t, t < 28 → Ll t < Ll (t + 1) := by decide +kernel
        exact this (t + 1) (by omega)
      omega
    · exact h
  refine ⟨_, _, _, Ll t, _, _, _, hall, fun K' hK' => lenOf_at (by omega) t ht, e', hb0, hb1, ?_, by omega, by omega, by omega, ?_⟩
  · rw [w64 (by omega) (by omega)]; omega
  · rw [w64 (by omega) (by omega)]; omega
end TabB
open TabB in
theorem TableBack : portagelaw6_TableBack.Pure := by
  intro x y _ _
  refine ⟨62, ?_⟩
  obtain ⟨n, hn, en⟩ := u64_tmod x 256 (by decide)
  obtain ⟨m, hm, em⟩ := u64_tmod y 32768 (by decide)
  replace en : Int.tmod (IntKind.u64.wrap x) 256 = (n : Int) := en
  replace em : Int.tmod (IntKind.u64.wrap y) 32768 = (m : Int) := em
  have ex : wrap64 (3 + wrap64 (n : Int)) = ((3 + n : Nat) : Int) := by rw [w64 (n := (n : Int)) (by omega) (by omega), w64 (by omega) (by omega)]; omega
  obtain ⟨z, ez, z1, z2⟩ : ∃ z : Int, wrap64 (1 + wrap64 (m : Int)) = z ∧ 1 ≤ z ∧ z ≤ 32768 := ⟨1 + m, by rw [w64 (n := (m : Int)) (by omega) (by omega), w64 (by omega) (by omega)], by omega, by omega⟩
  obtain ⟨s, b, v, l, s', b'', v'', a1, a2, a3, c0, c1, c2, c3, c4, c5, c6⟩ := len_all ((3 + n : Nat) : Int) (by omega) (by omega) 60 (by decide)
  obtain ⟨t, ht, d1, d2, d3⟩ := dist_at z z1 z2 (K := 62) (by decide)
  obtain ⟨z', ez', hz'⟩ : ∃ z' : Int, mn (wrap64 (z + 1)) 32768 = z' ∧ z ≤ z' ∧ z' ≤ z + 1 ∧ 1 ≤ z' ∧ z' ≤ 32768 := by
    refine ⟨_, rfl, ?_⟩
    rw [w64 (by omega) (by omega)]
    unfold mn
    split <;> omega
  obtain ⟨t', ht', d1', d2', d3'⟩ := dist_at z' (by omega) (by omega) (K := 60) (by decide)
  obtain ⟨hsh, hb0, hb1⟩ := shl_Bd t ht
  have hin := Ld_in t (by omega)
  have htt : t ≤ t' := by
    rcases Nat.lt_or_ge t' t with h | h
    · have := Ld_mono (t' + 1) (by omega) t (by omega) h
      omega
    · exact h
  have htt' : t' ≤ t + 1 := by
    rcases Nat.lt_or_ge (t + 1) t' with h | h
    · have := Ld_mono (t + 1 + 1) (by omega) t' (by omega) h
      have h3 : Ld (t + 1) < Ld (t + 1 + 1) := by
        have : ∀ t, t < 30 → Ld t < Ld (t + 1) := by decide +kernel
        exact this (t + 1) (by omega)
      omega
    · exact h
  unfold portagelaw6_TableBack.f
  rw [awake_true (by decide), Option.bind_some, if_pos rfl, en, em, ex, ez, a1 62 (by decide), Option.bind_some]
  dsimp only
  rw [a2 62 (by decide), Option.bind_some, d3, Option.bind_some]
  dsimp only
  rw [distOf_at (by decide) t ht, Option.bind_some]
  dsimp only
  rw [num1, Option.bind_some, if_pos rfl, Option.bind_some, if_pos rfl, Option.bind_some, if_pos rfl, Option.bind_some, if_pos rfl, if_pos rfl, if_pos rfl, if_neg (by omega), if_neg (by omega), if_neg (by omega), decide_eq_false (p := Bd t > 13) (by omega)]
  rw [portagelaw6_TableBack.j0, if_neg (by decide), if_pos c2, if_pos (by rw [w64 (by omega) (by omega)]; omega), if_neg (by omega), if_pos c0, if_neg (by omega), if_neg (by omega), if_pos hb0, decide_eq_false (p := z - Ld t ≥ shl .i64 1 (Bd t)) (by omega)]
  rw [portagelaw6_TableBack.j1, if_neg (by decide), a3, Option.bind_some, ez', d3', Option.bind_some]
  dsimp only
  rw [num1, Option.bind_some, if_pos rfl, Option.bind_some, if_pos rfl, if_pos c5, if_pos c6, if_pos (by omega), decide_eq_true (p := (t' : Int) ≤ wrap64 ((t : Int) + 1)) (by rw [w64 (by omega) (by omega)]; omega)]
end Go.Proofs.Ytbifignggnfodaa.Pure
