/- Chapter 5: the reference's tokens and what any tokens come to. -/
import Derived.Test.YtnjbbfcknijcnaaMatchEN
import Derived.Test.YtnjbbfcknijcnaaN3
import Derived.Test.YtnjbbfcknijcnaaN4
import Derived.Test.YtnjbbfcknijcnaaN7
import Derived.Test.YtnjbbfcknijcnaaN8
import Derived.Test.YtnjbbfcknijcnaaN2
import Derived.Test.YtnjbbfcknijcnaaN9
namespace Go.Proofs.Ytnjbbfcknijcnaa.N
set_option linter.unusedVariables false
set_option linter.unusedSimpArgs false
open Go.RowKit Go.Proofs.YtnjbbfcknijcnaaW.PrintWords Go.Proofs.YtnjbbfcknijcnaaW.PrintLast Go.Proofs.YtnjbbfcknijcnaaW.PrintMore
theorem parse_one (s : ByteArray) : ∀ (a b : List S72) (p : Nat), Parse s a p → Parse s b p → a = b
  | [], [], _, _, _ => rfl
  | [], t :: b, p, ha, hb => by have : p = s.size := ha; have := hb.1; omega
  | t :: a, [], p, ha, hb => by have : p = s.size := hb; have := ha.1; omega
  | t :: a, u :: b, p, ha, hb => by
    rcases ha.2 with ⟨rfl, hno, ha⟩ | ⟨L, D, rfl, hM, hmx, hnr, ha⟩
    · rcases hb.2 with ⟨rfl, _, hb⟩ | ⟨L, D, _, hM, _⟩
      · rw [parse_one s a b _ ha hb]
      · exact absurd hM (hno _ _)
    · rcases hb.2 with ⟨_, hno, _⟩ | ⟨L', D', rfl, hM', hmx', hnr', hb'⟩
      · exact absurd hM (hno _ _)
      · have h1 := hmx _ _ hM'
        have h2 := hmx' _ _ hM
        have hL : L = L' := by omega
        subst hL
        have hD : D = D' := by
          rcases Nat.lt_trichotomy D D' with h | h | h
          · exact absurd hM (hnr' _ h)
          · exact h
          · exact absurd hM' (hnr _ h)
        subst hD
        rw [parse_one s a b _ ha hb']
theorem refsame_l0 (s : ByteArray) (p D : Nat) (hn : s.size ≤ 300) (hp : D ≤ p) (hD : 1 ≤ D) : ∀ (d m : Nat), m + d = 258 → p + m ≤ s.size → Eqs s p m D →
    ∃ r : Nat, (∀ K, d + 1 ≤ K → portageref1_same.l0 K s (p : Int) ((p - D : Nat) : Int) (m : Int) = some (r : Int)) ∧ r ≤ 258 ∧ p + r ≤ s.size ∧ Eqs s p r D ∧ (r = 258 ∨ p + r = s.size ∨ bt s ((p + r : Nat) : Int) ≠ bt s ((p + r - D : Nat) : Int))
  | 0, m, hm, hs, he => by
    refine ⟨m, fun K hK => ?_, by omega, hs, he, .inl (by omega)⟩
    obtain ⟨q, rfl⟩ : ∃ q, K = q + 1 := ⟨K - 1, by omega⟩
    rw [portageref1_same.l0, if_neg (by omega)]
  | d + 1, m, hm, hs, he => by
    have e1 : (p : Int) + (m : Int) = ((p + m : Nat) : Int) := by omega
    have e2 : ((p - D : Nat) : Int) + (m : Int) = ((p + m - D : Nat) : Int) := by omega
    by_cases h1 : p + m < s.size
    · by_cases h2 : bt s ((p + m : Nat) : Int) = bt s ((p + m - D : Nat) : Int)
      · obtain ⟨r, hr, h⟩ := refsame_l0 s p D hn hp hD d (m + 1) (by omega) (by omega) (by
          intro j hj
          rcases Nat.lt_succ_iff_lt_or_eq.mp hj with h | h
          · exact he j h
          · subst h; exact h2)
        refine ⟨r, fun K hK => ?_, h⟩
        obtain ⟨q, rfl⟩ : ∃ q, K = q + 1 := ⟨K - 1, by omega⟩
        have ih := hr q (by omega)
        rw [portageref1_same.l0, if_pos (by omega), w64 (by omega) (by omega), w64 (by omega) (by omega), if_pos (by omega), if_pos (by omega), if_pos (by omega), if_pos (by omega), e1, e2, if_pos h2, w64 (by omega) (by omega)]
        exact ih
      · refine ⟨m, fun K hK => ?_, by omega, hs, he, .inr (.inr h2)⟩
        obtain ⟨q, rfl⟩ : ∃ q, K = q + 1 := ⟨K - 1, by omega⟩
        rw [portageref1_same.l0, if_pos (by omega), w64 (by omega) (by omega), w64 (by omega) (by omega), if_pos (by omega), if_pos (by omega), if_pos (by omega), if_pos (by omega), e1, e2, if_neg h2]
    · refine ⟨m, fun K hK => ?_, by omega, hs, he, .inr (.inl (by omega))⟩
      obtain ⟨q, rfl⟩ : ∃ q, K = q + 1 := ⟨K - 1, by omega⟩
      rw [portageref1_same.l0, if_pos (by omega), w64 (by omega) (by omega), if_neg (by omega)]
theorem refsame_k (s : ByteArray) (p D : Nat) (hn : s.size ≤ 300) (hD : 1 ≤ D) (hp : D ≤ p) (hs : p ≤ s.size) :
    ∃ r : Nat, (∀ k, 260 ≤ k → portageref1_same.f k s (p : Int) ((p - D : Nat) : Int) = some (r : Int)) ∧ (3 ≤ r → IsM s p r D) ∧ p + r ≤ s.size ∧ ∀ L, IsM s p L D → L ≤ r := by
  obtain ⟨r, h1, h2, h3, h4, h5⟩ := refsame_l0 s p D hn hp hD 258 0 rfl (by omega) (fun j hj => absurd hj (by omega))
  refine ⟨r, fun k hk => h1 k (by omega), fun h => ⟨h, h2, hD, hp, h3, h4⟩, h3, fun L hL => ?_⟩
  obtain ⟨_, a, _, _, b, c⟩ := hL
  rcases h5 with h | h | h
  · omega
  · omega
  · exact Nat.le_of_not_lt fun hlt => h (c r hlt)
/-- What the reference's search holds when the distances below i are tried. -/
def RB (s : ByteArray) (p i L D : Nat) : Prop := p + L ≤ s.size ∧ (∀ L' D', D' < i → IsM s p L' D' → L' ≤ L) ∧ (3 ≤ L → IsM s p L D ∧ D < i ∧ ∀ D', D' < D → ¬ IsM s p L D')
/-- What follows on a search that found L, D. -/
theorem ref_l1 (s : ByteArray) (p : Nat) (acc : List S72) (hn : s.size ≤ 300) (hs : p < s.size) (R : Nat) (res : Option (List S72 × Int)) (hR : 300 ≤ R)
    (hend : ∀ L D : Nat, RB s p (p + 1) L D → ∀ K, R ≤ K → portageref1_Tokens.l1 K s acc (p : Int) (L : Int) (D : Int) (-1) = res) : ∀ (d i L D : Nat), i + d = p + 1 → 1 ≤ i → RB s p i L D → ∀ K, R + d ≤ K →
    portageref1_Tokens.l1 K s acc (p : Int) (L : Int) (D : Int) ((p : Int) - (i : Int)) = res
  | 0, i, L, D, hi, h1, hb, K, hK => by
    rw [show (p : Int) - (i : Int) = -1 from by omega]
    exact hend L D (by rw [show p + 1 = i from by omega]; exact hb) K (by omega)
  | d + 1, i, L, D, hi, h1, hb, K, hK => by
    obtain ⟨r, hr, hm, hpr, hx⟩ := refsame_k s p i hn h1 (by omega) (by omega)
    obtain ⟨q, rfl⟩ : ∃ q, K = q + 1 := ⟨K - 1, by omega⟩
    have e : (p : Int) - (i : Int) = ((p - i : Nat) : Int) := by omega
    rw [portageref1_Tokens.l1, if_pos (by omega), e, hr q (by omega), Option.bind_some, w64 (n := ((p - i : Nat) : Int) - 1) (by omega) (by omega), show ((p - i : Nat) : Int) - 1 = (p : Int) - ((i + 1 : Nat) : Int) from by omega]
    obtain ⟨b0, b1, b2⟩ := hb
    by_cases h : L < r
    · rw [if_pos (by omega), w64 (by omega) (by omega), show (p : Int) - ((p - i : Nat) : Int) = (i : Int) from by omega]
      refine ref_l1 s p acc hn hs R res hR hend d (i + 1) r i (by omega) (by omega) ⟨hpr, fun L' D' hD hM => ?_, fun h3 => ⟨hm h3, by omega, fun D' hD hM => ?_⟩⟩ q (by omega)
      · rcases Nat.lt_succ_iff_lt_or_eq.mp hD with hlt | rfl
        · have := b1 _ _ hlt hM; omega
        · exact hx _ hM
      · have := b1 _ _ hD hM; omega
    · rw [if_neg (by omega)]
      refine ref_l1 s p acc hn hs R res hR hend d (i + 1) L D (by omega) (by omega) ⟨b0, fun L' D' hD hM => ?_, fun h3 => ⟨(b2 h3).1, by have := (b2 h3).2.1; omega, (b2 h3).2.2⟩⟩ q (by omega)
      rcases Nat.lt_succ_iff_lt_or_eq.mp hD with hlt | rfl
      · exact b1 _ _ hlt hM
      · have := hx _ hM; omega
theorem reftokens_l0 (s : ByteArray) (hn : s.size ≤ 300) : ∀ (d : Nat) (ts : List S72) (p : Nat), p + d = s.size → Parse s ts p → ∀ (acc : List S72), acc.length ≤ p → ∀ K, 310 * d + 700 ≤ K → portageref1_Tokens.l0 K s acc (p : Int) = some (acc ++ ts, 0) := by
  intro d
  induction d using Nat.strongRecOn with
  | ind d ih =>
    intro ts p hp hP acc ha K hK
    obtain ⟨q, rfl⟩ : ∃ q, K = q + 1 := ⟨K - 1, by omega⟩
    match ts, hP with
    | [], hP =>
      have hp' : p = s.size := hP
      rw [portageref1_Tokens.l0, if_neg (by omega), List.append_nil]
    | t :: ts, hP =>
      obtain ⟨hps, hP⟩ := hP
      rw [portageref1_Tokens.l0, if_pos (by omega), w64 (by omega) (by omega)]
      refine ref_l1 s p acc hn hps (310 * (d - 1) + 701) _ (by omega) (fun L D hb K' hK' => ?_) p 1 0 0 (by omega) (by omega) ⟨by omega, fun L' D' hD hM => by have := hM.2.2.1; omega, fun h => absurd h (by omega)⟩ q (by omega)
      obtain ⟨b0, b1, b2⟩ := hb
      obtain ⟨m, rfl⟩ : ∃ m, K' = m + 1 := ⟨K' - 1, by omega⟩
      have hr := bt_range s (p : Int)
      rw [portageref1_Tokens.l1, if_neg (by omega)]
      have all : ∀ L' D', IsM s p L' D' → L' ≤ L := fun L' D' hM => b1 L' D' (by have := hM.2.2.2.1; omega) hM
      rcases hP with ⟨rfl, hno, hP⟩ | ⟨L', D', rfl, hM, hmx, hnr, hP⟩
      · have h3 : L < 3 := by
          rcases Nat.lt_or_ge L 3 with h | h
          · exact h
          · exact absurd (b2 h).1 (hno _ _)
        rw [if_pos (by omega), if_pos (by omega), if_pos (by omega), if_pos (by omega), w64 (by omega) (by omega), w64 (by omega) (by omega), show (p : Int) + 1 = ((p + 1 : Nat) : Int) from by omega]
        have := ih (d - 1) (by omega) ts (p + 1) (by omega) hP (acc ++ [⟨bt s (p : Int), 0, 0⟩]) (by simp; omega) m (by omega)
        rw [this, List.append_assoc]; rfl
      · have h1 := all _ _ hM
        have h3 := hM.1
        obtain ⟨c1, c2, c3⟩ := b2 (by omega)
        have h2 := hmx _ _ c1
        have hL : L = L' := by omega
        subst hL
        have hD : D = D' := by
          rcases Nat.lt_trichotomy D D' with h | h | h
          · exact absurd c1 (hnr _ h)
          · exact h
          · exact absurd hM (c3 _ h)
        subst hD
        rw [if_neg (by omega), if_pos (by omega), w64 (by omega) (by omega), show (p : Int) + (L : Int) = ((p + L : Nat) : Int) from by omega]
        have := ih (d - L) (by omega) ts (p + L) (by omega) hP (acc ++ [⟨0, (L : Int), (D : Int)⟩]) (by simp; omega) m (by omega)
        rw [this, List.append_assoc]; rfl
theorem reftokens_k (s : ByteArray) : ∃ ts e, ts.length ≤ 300 ∧ ∀ k, 94000 ≤ k → match_Tokens.f k s = some (ts, e) ∧ portageref1_Tokens.f k s = some (ts, e) := by
  by_cases hn : s.size ≤ 300
  · obtain ⟨ts, hP, hl, h⟩ := tokens_k s hn
    refine ⟨ts, 0, by omega, fun k hk => ⟨h k (by omega), ?_⟩⟩
    unfold portageref1_Tokens.f
    rw [if_neg (by omega)]
    exact reftokens_l0 s hn s.size ts 0 (by omega) hP [] (by simp) k (by omega)
  · refine ⟨[], 500, by simp, fun k _ => ⟨tokens_long s (by omega) k, ?_⟩⟩
    unfold portageref1_Tokens.f
    rw [if_pos (by omega)]
end Go.Proofs.Ytnjbbfcknijcnaa.N
