/- Chapter 5 over plain lists and bytes: the longest copy, the tokens of a text, what the tokens come to. -/
import Derived.Test.YtnjbbfcknijcnaaN2
import Derived.Test.YtnjbbfcknijcnaaN3
import Derived.Test.YtnjbbfcknijcnaaN5
import Derived.Test.YtnjbbfcknijcnaaN6
import Derived.Test.YtnjbbfcknijcnaaN10
namespace Go.Proofs.Ytnjbbfcknijcnaa.N
set_option linter.unusedVariables false
set_option linter.unusedSimpArgs false
open Go.RowKit Go.Proofs.YtnjbbfcknijcnaaW.PrintWords Go.Proofs.YtnjbbfcknijcnaaW.PrintLast Go.Proofs.YtnjbbfcknijcnaaW.PrintMore
def Eqs (s : ByteArray) (p m D : Nat) : Prop := ∀ j, j < m → bt s ((p + j : Nat) : Int) = bt s ((p + j - D : Nat) : Int)
def IsM (s : ByteArray) (p L D : Nat) : Prop := 3 ≤ L ∧ L ≤ 258 ∧ 1 ≤ D ∧ D ≤ p ∧ p + L ≤ s.size ∧ Eqs s p L D
theorem w64 {n : Int} (h : -9223372036854775808 ≤ n) (h' : n < 9223372036854775808) : wrap64 n = n := by unfold wrap64; omega
theorem long_l0 (s : ByteArray) (p D : Nat) (hn : s.size ≤ 300) (hp : D ≤ p) : ∀ (d m : Nat), m + d = 258 → p + m ≤ s.size → Eqs s p m D →
    ∃ r : Nat, (∀ k, match_long.l0 (k + d + 1) s (p : Int) (D : Int) (m : Int) = some (r : Int)) ∧ r ≤ 258 ∧ p + r ≤ s.size ∧ Eqs s p r D ∧ (r = 258 ∨ p + r = s.size ∨ bt s ((p + r : Nat) : Int) ≠ bt s ((p + r - D : Nat) : Int))
  | 0, m, hm, hs, he => by
    refine ⟨m, fun k => ?_, by omega, hs, he, .inl (by omega)⟩
    simp only [match_long.l0]
    rw [if_neg (by omega)]
  | d + 1, m, hm, hs, he => by
    by_cases h1 : p + m < s.size
    · by_cases h2 : bt s ((p + m : Nat) : Int) = bt s ((p + m - D : Nat) : Int)
      · obtain ⟨r, hr, h⟩ := long_l0 s p D hn hp d (m + 1) (by omega) (by omega) (by
          intro j hj
          rcases Nat.lt_succ_iff_lt_or_eq.mp hj with h | h
          · exact he j h
          · subst h; exact h2)
        refine ⟨r, fun k => ?_, h⟩
        have ih := hr k
        rw [show k + (d + 1) + 1 = (k + d + 1) + 1 from by omega]
        generalize k + d + 1 = K at ih ⊢
        simp only [match_long.l0]
        rw [if_pos (by omega), w64 (by omega) (by omega), w64 (by omega) (by omega), if_pos (by omega), if_pos (by omega), if_pos (by omega), if_pos (by omega),
          show ((p : Int) + (m : Int)) = ((p + m : Nat) : Int) from by omega, show (((p + m : Nat) : Int) - (D : Int)) = ((p + m - D : Nat) : Int) from by omega, if_pos h2, w64 (by omega) (by omega)]
        exact ih
      · refine ⟨m, fun k => ?_, by omega, hs, he, .inr (.inr h2)⟩
        rw [show k + (d + 1) + 1 = (k + d + 1) + 1 from by omega]
        generalize k + d + 1 = K
        simp only [match_long.l0]
        rw [if_pos (by omega), w64 (by omega) (by omega), w64 (by omega) (by omega), if_pos (by omega), if_pos (by omega), if_pos (by omega), if_pos (by omega),
          show ((p : Int) + (m : Int)) = ((p + m : Nat) : Int) from by omega, show (((p + m : Nat) : Int) - (D : Int)) = ((p + m - D : Nat) : Int) from by omega, if_neg h2]
    · refine ⟨m, fun k => ?_, by omega, hs, he, .inr (.inl (by omega))⟩
      rw [show k + (d + 1) + 1 = (k + d + 1) + 1 from by omega]
      generalize k + d + 1 = K
      simp only [match_long.l0]
      rw [if_pos (by omega), w64 (by omega) (by omega), if_neg (by omega)]
theorem long_k (s : ByteArray) (p D : Nat) (hn : s.size ≤ 300) (hD : 1 ≤ D) (hp : D ≤ p) (hs : p ≤ s.size) :
    ∃ r : Nat, (∀ k, 260 ≤ k → match_long.f k s (p : Int) (D : Int) = some (r : Int)) ∧ (3 ≤ r → IsM s p r D) ∧ ∀ L, IsM s p L D → L ≤ r := by
  obtain ⟨r, h1, h2, h3, h4, h5⟩ := long_l0 s p D hn hp 258 0 rfl (by omega) (fun j hj => absurd hj (by omega))
  refine ⟨r, fun k hk => ?_, fun h => ⟨h, h2, hD, hp, h3, h4⟩, fun L hL => ?_⟩
  · have := h1 (k - 259)
    rw [show k - 259 + 258 + 1 = k from by omega] at this
    exact this
  · obtain ⟨_, a, _, _, b, c⟩ := hL
    rcases h5 with h | h | h
    · omega
    · omega
    · exact Nat.le_of_not_lt fun hlt => h (c r hlt)
/-- What 'best' holds when the distances below i are tried. -/
def Best (s : ByteArray) (p i L D : Nat) : Prop := (L = 0 ∧ D = 0 ∧ ∀ L' D', D' < i → ¬ IsM s p L' D') ∨ (IsM s p L D ∧ D < i ∧ (∀ L' D', D' < i → IsM s p L' D' → L' ≤ L) ∧ ∀ D', D' < D → ¬ IsM s p L D')
theorem best_l0 (s : ByteArray) (p : Nat) (hn : s.size ≤ 300) (hs : p ≤ s.size) : ∀ (d i L D : Nat), i + d = p + 1 → 1 ≤ i → Best s p i L D →
    ∃ L' D' : Nat, Best s p (p + 1) L' D' ∧ ∀ k, match_best.l0 (k + 300 + d + 1) s (p : Int) (i : Int) 0 (L : Int) (D : Int) = some (0, (L' : Int), (D' : Int))
  | 0, i, L, D, hi, h1, hb => by
    refine ⟨L, D, by rw [show p + 1 = i from by omega]; exact hb, fun k => ?_⟩
    generalize k + 300 + 0 = K
    simp only [match_best.l0]
    rw [if_neg (by unfold mn; split <;> omega)]
  | d + 1, i, L, D, hi, h1, hb => by
    obtain ⟨r, hr, hm, hx⟩ := long_k s p i hn h1 (by omega) hs
    have go : ∀ L2 D2 : Nat, Best s p (i + 1) L2 D2 → (3 ≤ r ∧ L < r → L2 = r ∧ D2 = i) → (¬ (3 ≤ r ∧ L < r) → L2 = L ∧ D2 = D) → ∃ L' D' : Nat, Best s p (p + 1) L' D' ∧ ∀ k, match_best.l0 (k + 300 + (d + 1) + 1) s (p : Int) (i : Int) 0 (L : Int) (D : Int) = some (0, (L' : Int), (D' : Int)) := by
      intro L2 D2 hb2 e1 e2
      obtain ⟨L', D', hb', ih⟩ := best_l0 s p hn hs d (i + 1) L2 D2 (by omega) (by omega) hb2
      refine ⟨L', D', hb', fun k => ?_⟩
      have ih := ih k
      have hl := hr (k + 300 + d + 1) (by omega)
      rw [show k + 300 + (d + 1) + 1 = (k + 300 + d + 1) + 1 from by omega]
      generalize k + 300 + d + 1 = K at ih hl ⊢
      simp only [match_best.l0]
      rw [if_pos (by unfold mn; split <;> omega), hl, Option.bind_some, w64 (by omega) (by omega), show (i : Int) + 1 = ((i + 1 : Nat) : Int) from by omega]
      by_cases h3 : 3 ≤ r
      · rw [if_pos (by omega)]
        by_cases h4 : L < r
        · obtain ⟨rfl, rfl⟩ := e1 ⟨h3, h4⟩
          rw [if_pos (by omega)]; exact ih
        · obtain ⟨rfl, rfl⟩ := e2 (by omega)
          rw [if_neg (by omega)]; exact ih
      · obtain ⟨rfl, rfl⟩ := e2 (by omega)
        rw [if_neg (by omega)]; exact ih
    by_cases h : 3 ≤ r ∧ L < r
    · refine go r i (.inr ⟨hm h.1, by omega, ?_, ?_⟩) (fun _ => ⟨rfl, rfl⟩) (fun h' => absurd h h')
      · intro L' D' hD hM
        rcases Nat.lt_succ_iff_lt_or_eq.mp hD with hlt | rfl
        · rcases hb with ⟨_, _, h0⟩ | ⟨_, _, h0, _⟩
          · exact absurd hM (h0 _ _ hlt)
          · have := h0 _ _ hlt hM; omega
        · exact hx _ hM
      · intro D' hD hM
        rcases hb with ⟨_, _, h0⟩ | ⟨_, _, h0, _⟩
        · exact h0 _ _ hD hM
        · have := h0 _ _ hD hM; omega
    · refine go L D ?_ (fun h' => absurd h' h) (fun _ => ⟨rfl, rfl⟩)
      rcases hb with ⟨h0, h0', h2⟩ | ⟨h0, hD, h2, h3⟩
      · refine .inl ⟨h0, h0', fun L' D' hD hM => ?_⟩
        rcases Nat.lt_succ_iff_lt_or_eq.mp hD with hlt | rfl
        · exact h2 _ _ hlt hM
        · have := hx _ hM; have := hM.1; omega
      · refine .inr ⟨h0, by omega, fun L' D' hD' hM => ?_, h3⟩
        rcases Nat.lt_succ_iff_lt_or_eq.mp hD' with hlt | rfl
        · exact h2 _ _ hlt hM
        · have := hx _ hM; have := hM.1; omega
theorem best_k (s : ByteArray) (p : Nat) (hn : s.size ≤ 300) (hs : p ≤ s.size) : ∃ L D : Nat, Best s p (p + 1) L D ∧ ∀ k, 700 ≤ k → match_best.f k s (p : Int) = some (0, (L : Int), (D : Int)) := by
  obtain ⟨L, D, hb, h⟩ := best_l0 s p hn hs p 1 0 0 (by omega) (by omega) (.inl ⟨rfl, rfl, fun L' D' hD hM => by have := hM.2.2.1; omega⟩)
  refine ⟨L, D, hb, fun k hk => ?_⟩
  have := h (k - 300 - p - 1)
  rw [show k - 300 - p - 1 + 300 + p + 1 = k from by omega] at this
  exact this
/-- A text's tokens from a place on: at each place the longest copy (and of these the nearest), else the byte by itself. -/
def Parse (s : ByteArray) : List S72 → Nat → Prop
  | [], p => p = s.size
  | t :: ts, p => p < s.size ∧ ((t = ⟨bt s (p : Int), 0, 0⟩ ∧ (∀ L D, ¬ IsM s p L D) ∧ Parse s ts (p + 1)) ∨ ∃ L D : Nat, t = ⟨0, (L : Int), (D : Int)⟩ ∧ IsM s p L D ∧ (∀ L' D', IsM s p L' D' → L' ≤ L) ∧ (∀ D', D' < D → ¬ IsM s p L D') ∧ Parse s ts (p + L))
theorem best_end {s : ByteArray} {p L D : Nat} (h : Best s p (p + 1) L D) : (L = 0 ∧ D = 0 ∧ ∀ L' D', ¬ IsM s p L' D') ∨ (IsM s p L D ∧ (∀ L' D', IsM s p L' D' → L' ≤ L) ∧ ∀ D', D' < D → ¬ IsM s p L D') := by
  rcases h with ⟨a, b, c⟩ | ⟨a, b, c, d⟩
  · exact .inl ⟨a, b, fun L' D' hM => c L' D' (by have := hM.2.2.2.1; omega) hM⟩
  · exact .inr ⟨a, fun L' D' hM => c L' D' (by have := hM.2.2.2.1; omega) hM, d⟩
theorem tokens_l0 (s : ByteArray) (hn : s.size ≤ 300) : ∀ (d p : Nat), p + d = s.size → ∃ ts, Parse s ts p ∧ ts.length ≤ d ∧ ∀ k (acc : List S72), acc.length ≤ p → match_Tokens.l0 (k + 900 + d + 1) s acc (p : Int) = some (acc ++ ts, 0) := by
  intro d
  induction d using Nat.strongRecOn with
  | ind d ih =>
    intro p hp
    match d, ih, hp with
    | 0, _, hp =>
      refine ⟨[], by simp [Parse]; omega, by simp, fun k acc _ => ?_⟩
      generalize k + 900 + 0 = K
      simp only [match_Tokens.l0]
      rw [if_neg (by omega), List.append_nil]
    | d + 1, ih, hp =>
      obtain ⟨L, D, hb, hf⟩ := best_k s p hn (by omega)
      rcases best_end hb with ⟨rfl, rfl, hno⟩ | ⟨hM, hmx, hnr⟩
      · obtain ⟨ts, hP, hl, ih⟩ := ih d (by omega) (p + 1) (by omega)
        refine ⟨⟨bt s (p : Int), 0, 0⟩ :: ts, ⟨by omega, .inl ⟨rfl, hno, hP⟩⟩, by simp; omega, fun k acc ha => ?_⟩
        have ih := ih k (acc ++ [⟨bt s (p : Int), 0, 0⟩]) (by simp; omega)
        have hf := hf (k + 900 + d + 1) (by omega)
        have hr := bt_range s (p : Int)
        rw [show k + 900 + (d + 1) + 1 = (k + 900 + d + 1) + 1 from by omega]
        generalize k + 900 + d + 1 = K at ih hf ⊢
        simp only [match_Tokens.l0]
        rw [if_pos (by omega), hf, Option.bind_some]
        dsimp only
        rw [if_pos (by rfl), if_pos (by omega), if_pos (by omega), w64 (by omega) (by omega)]
        rw [show wrap64 ((p : Int) + mx 1 ((0 : Nat) : Int)) = ((p + 1 : Nat) : Int) from by unfold wrap64 mx; split <;> omega]
        simp only [Int.ofNat_zero, Int.natCast_zero] at ih ⊢
        rw [ih, List.append_assoc]; rfl
      · have hM' := hM
        obtain ⟨h3, h258, hD1, hDp, hpL, he⟩ := hM'
        obtain ⟨ts, hP, hl, ih⟩ := ih (d + 1 - L) (by omega) (p + L) (by omega)
        refine ⟨⟨0, (L : Int), (D : Int)⟩ :: ts, ⟨by omega, .inr ⟨L, D, rfl, hM, hmx, hnr, hP⟩⟩, by simp; omega, fun k acc ha => ?_⟩
        have ih := ih (k + (L - 1)) (acc ++ [⟨0, (L : Int), (D : Int)⟩]) (by simp; omega)
        have hf := hf (k + 900 + d + 1) (by omega)
        rw [show k + (L - 1) + 900 + (d + 1 - L) + 1 = k + 900 + d + 1 from by omega] at ih
        rw [show k + 900 + (d + 1) + 1 = (k + 900 + d + 1) + 1 from by omega]
        generalize k + 900 + d + 1 = K at ih hf ⊢
        simp only [match_Tokens.l0]
        rw [if_pos (by omega), hf, Option.bind_some]
        dsimp only
        rw [if_neg (by omega), if_pos (by omega)]
        rw [show wrap64 ((p : Int) + mx 1 (L : Int)) = ((p + L : Nat) : Int) from by unfold wrap64 mx; split <;> omega]
        rw [ih, List.append_assoc]; rfl
theorem tokens_k (s : ByteArray) (hn : s.size ≤ 300) : ∃ ts, Parse s ts 0 ∧ ts.length ≤ s.size ∧ ∀ k, 1300 ≤ k → match_Tokens.f k s = some (ts, 0) := by
  obtain ⟨ts, hP, hl, h⟩ := tokens_l0 s hn s.size 0 (by omega)
  refine ⟨ts, hP, hl, fun k hk => ?_⟩
  have := h (k - 900 - s.size - 1) [] (by simp)
  rw [show k - 900 - s.size - 1 + 900 + s.size + 1 = k from by omega] at this
  unfold match_Tokens.f
  rw [if_neg (by omega)]
  exact this
theorem tokens_long (s : ByteArray) (hn : 300 < s.size) (k : Nat) : match_Tokens.f k s = some ([], 500) := by
  unfold match_Tokens.f
  rw [if_pos (by omega)]
end Go.Proofs.Ytnjbbfcknijcnaa.N
