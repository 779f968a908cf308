import Derived.Test.YtnjbbfcknijcnaaMatchEM
import Derived.Test.YtnjbbfcknijcnaaM9
namespace Go.Proofs.Ytnjbbfcknijcnaa.Pure
set_option linter.unusedVariables false
set_option linter.unusedSimpArgs false
open Go.RowKit Go.Proofs.Ytnjbbfcknijcnaa.M Go.Proofs.YtnjbbfcknijcnaaW.PrintWords Go.Proofs.YtnjbbfcknijcnaaW.PrintLast
theorem bt_app (s t : ByteArray) (i : Nat) (h : i < s.size) : bt (s ++ t) (i : Int) = bt s (i : Int) := by
  have h' : i < (s ++ t).size := by rw [ByteArray.size_append]; omega
  have e1 : bt (s ++ t) (i : Int) = (((s ++ t)[i]'h').toNat : Int) := (bt_at (s ++ t) (i : Int) (by omega)).symm
  have e2 : bt s (i : Int) = ((s[i]'h).toNat : Int) := (bt_at s (i : Int) (by omega)).symm
  rw [e1, e2, ByteArray.getElem_append_left h]
theorem isM_up {s t : ByteArray} {p L D : Nat} (h : IsM s p L D) : IsM (s ++ t) p L D := by
  obtain ⟨a, b, c, d, e, f⟩ := h
  refine ⟨a, b, c, d, by rw [ByteArray.size_append]; omega, fun j hj => ?_⟩
  rw [bt_app s t _ (by omega), bt_app s t _ (by omega)]
  exact f j hj
theorem isM_down {s t : ByteArray} {p L D : Nat} (h : IsM (s ++ t) p L D) (hp : p + L ≤ s.size) : IsM s p L D := by
  obtain ⟨a, b, c, d, e, f⟩ := h
  refine ⟨a, b, c, d, hp, fun j hj => ?_⟩
  rw [← bt_app s t _ (by omega), ← bt_app s t _ (by omega)]
  exact f j hj
theorem parse_len (s : ByteArray) : ∀ (ts : List S72) (p : Nat), Parse s ts p → ts.length + p ≤ s.size
  | [], p, h => by have : p = s.size := h; simp; omega
  | t :: ts, p, h => by
    obtain ⟨hp, h | h⟩ := h
    · have := parse_len s ts _ h.2.2; simp; omega
    · obtain ⟨L, D, _, hM, _, _, h⟩ := h
      have := parse_len s ts _ h; have := hM.1; simp; omega
theorem twice (s t : ByteArray) : ∀ (ta tb : List S72) (p : Nat), Parse s ta p → Parse (s ++ t) tb p → tb.length ≤ ta.length + t.size
  | [], tb, p, ha, hb => by
    have hp : p = s.size := ha
    have := parse_len _ _ _ hb
    rw [ByteArray.size_append] at this
    simp; omega
  | a :: ta, tb, p, ha, hb => by
    obtain ⟨hp, ha⟩ := ha
    match tb, hb with
    | [], _ => simp
    | b :: tb, hb =>
      obtain ⟨hpb, hb⟩ := hb
      have far : ∀ q, s.size ≤ q → Parse (s ++ t) tb q → (b :: tb).length ≤ (a :: ta).length + t.size := by
        intro q hq h
        have := parse_len _ _ _ h
        rw [ByteArray.size_append] at this
        simp; omega
      rcases hb with ⟨_, hno, hb⟩ | ⟨L, D, _, hM, hmx, _, hb⟩
      · rcases ha with ⟨_, _, ha⟩ | ⟨L', D', _, hM', _, _, ha⟩
        · have := twice s t ta tb (p + 1) ha hb
          simp; omega
        · exact absurd (isM_up hM') (hno _ _)
      · by_cases h : s.size ≤ p + L
        · exact far _ h hb
        · have hMs := isM_down hM (by omega)
          rcases ha with ⟨_, hno, ha⟩ | ⟨L', D', _, hM', hmx', _, ha⟩
          · exact absurd hMs (hno _ _)
          · have h1 := hmx' _ _ hMs
            have h2 := hmx _ _ (isM_up hM')
            have hL : L' = L := by omega
            subst hL
            have := twice s t ta tb (p + L') ha hb
            simp; omega
theorem MatchTwice : portagelaw5_MatchTwice.Pure := by
  intro s _
  by_cases hn : s.size ≤ 150
  · have hz : (s ++ s).size = s.size + s.size := ByteArray.size_append
    obtain ⟨ta, hPa, hta, ha⟩ := tokens_k s (by omega)
    obtain ⟨tb, hPb, htb, hb⟩ := tokens_k (s ++ s) (by omega)
    have hlen := twice s s ta tb 0 hPa hPb
    refine ⟨5001, ?_⟩
    obtain ⟨hE, hM⟩ := expand_k (s ++ s) tb (by omega) (by omega) hPb (k := 5000) (by omega)
    have ha := ha 5000 (by omega)
    have hb := hb 5000 (by omega)
    have hw := awake_true (k := 5001) (by omega)
    unfold portagelaw5_MatchTwice.f
    rw [hw, Option.bind_some, if_pos rfl]
    have hj : portagelaw5_MatchTwice.j0 5001 s false = some true := by
      rw [show (5001 : Nat) = 5000 + 1 from rfl]
      generalize 5000 = K at ha hb hE ⊢
      simp only [portagelaw5_MatchTwice.j0]
      rw [if_neg (by decide), ha, Option.bind_some, if_pos (by omega), hb, Option.bind_some]
      dsimp only
      rw [hE, Option.bind_some]
      dsimp only
      rw [num_k, Option.bind_some, if_pos rfl, Option.bind_some, if_pos rfl, Option.bind_some, if_pos rfl, if_pos rfl]
      rw [w64 (by omega) (by omega), decide_eq_true (by omega)]
    by_cases h3 : s.size < 3
    · rw [if_pos (by omega), show (5001 : Nat) = 5000 + 1 from rfl]
      generalize 5000 = K
      simp only [portagelaw5_MatchTwice.j0]
      rw [if_pos trivial]
    · rw [if_neg (by omega), decide_eq_false (by omega)]
      exact hj
  · refine ⟨5001, ?_⟩
    have hw := awake_true (k := 5001) (by omega)
    unfold portagelaw5_MatchTwice.f
    rw [hw, Option.bind_some, if_pos rfl, if_neg (by omega), decide_eq_true (by omega), show (5001 : Nat) = 5000 + 1 from rfl]
    generalize 5000 = K
    simp only [portagelaw5_MatchTwice.j0]
    rw [if_pos trivial]
end Go.Proofs.Ytnjbbfcknijcnaa.Pure
