/- Chapter 5: runs of copies of one byte. -/
import Derived.Test.YtnjbbfcknijcnaaMatchEM
namespace Go.Proofs.Ytnjbbfcknijcnaa.M
set_option linter.unusedVariables false
set_option linter.unusedSimpArgs false
open Go.RowKit Go.Proofs.YtnjbbfcknijcnaaW.PrintWords Go.Proofs.YtnjbbfcknijcnaaW.PrintLast Go.Proofs.YtnjbbfcknijcnaaW.PrintMore
/-- A pick among m, by an unsigned rest. -/
theorem pick (x : Int) (m : Nat) (hm : 0 < m) (hm2 : m < 4294967296) : ∃ i : Nat, i < m ∧ wrap64 (Int.tmod (IntKind.u64.wrap x) (m : Int)) = (i : Int) := by
  have h0 : 0 ≤ IntKind.u64.wrap x := by rw [IntKind.wrap_u64]; omega
  rw [Int.tmod_eq_emod_of_nonneg h0]
  have h1 := Int.emod_nonneg (IntKind.u64.wrap x) (show (m : Int) ≠ 0 by omega)
  have h2 := Int.emod_lt_of_pos (IntKind.u64.wrap x) (show (0 : Int) < (m : Int) by omega)
  rw [w64 (by omega) (by omega)]
  exact ⟨((IntKind.u64.wrap x) % (m : Int)).toNat, by omega, by omega⟩
theorem range_const (n : Nat) (c : Int) : (List.range n).map (fun _ => c) = List.replicate n c := by
  induction n with
  | zero => rfl
  | succ n ih => rw [List.range_succ, List.map_append, ih, List.replicate_succ']; rfl
theorem token_run (n : Nat) (h1 : 1 ≤ n) (h2 : n + 258 ≤ 8192) {k : Nat} (hk : 300 ≤ k) : match_text_token.f k (List.replicate n 65) 0 258 1 = some (true, List.replicate (n + 258) 65) := by
  have hl : (List.replicate n (65 : Int)).length = n := List.length_replicate
  unfold match_text_token.f
  rw [if_neg (by omega), if_pos rfl, if_neg (by omega), if_neg (by omega), if_neg (by omega), if_neg (by rw [hl]; unfold mn; split <;> omega)]
  rw [show (decide (wrap64 (((List.replicate n (65 : Int)).length : Int) + 258) > 8192)) = false from by rw [hl, w64 (by omega) (by omega)]; exact decide_eq_false (by omega)]
  obtain ⟨m, rfl⟩ : ∃ m, k = (m + 258 + 1) + 1 := ⟨k - 258 - 2, by omega⟩
  have := token_l0 (List.replicate n 65) 258 1 (by omega) (by omega) (by omega) (fun _ => 65) (fun i hi => by simp [rd]; rw [List.getElem?_replicate]; simp at hi; simp [hi]) (fun _ _ => rfl) 258 0 (by omega) m
  generalize m + 258 + 1 = K at this ⊢
  simp only [match_text_token.j0]
  rw [if_neg (by decide)]
  rw [range_const, range_const, hl] at this
  exact this
theorem token_full (n : Nat) (h1 : 1 ≤ n) (h2 : n ≤ 8192) (h3 : 8192 < n + 258) {k : Nat} (hk : 300 ≤ k) : match_text_token.f k (List.replicate n 65) 0 258 1 = some (false, List.replicate n 65) := by
  have hl : (List.replicate n (65 : Int)).length = n := List.length_replicate
  unfold match_text_token.f
  rw [if_neg (by omega), if_pos rfl, if_neg (by omega), if_neg (by omega), if_neg (by omega), if_neg (by rw [hl]; unfold mn; split <;> omega)]
  rw [show (decide (wrap64 (((List.replicate n (65 : Int)).length : Int) + 258) > 8192)) = true from by rw [hl, w64 (by omega) (by omega)]; exact decide_eq_true (by omega)]
  obtain ⟨m, rfl⟩ : ∃ m, k = m + 1 := ⟨k - 1, by omega⟩
  simp only [match_text_token.j0]
  rw [if_pos trivial]
set_option maxRecDepth 20000 in
theorem all_run (ts : List S72) (hts : ts.length ≤ 300) : ∀ (d i n : Nat), i + d = ts.length → ts.drop i = List.replicate d ⟨0, 258, 1⟩ → 1 ≤ n → n ≤ 8192 → ∀ k, ∃ r, match_text_all.l0 (k + 300 + d + 1) ts (ts.length : Int) (i : Int) (List.replicate n 65) = some (decide (n + 258 * d ≤ 8192), r) ∧ (n + 258 * d ≤ 8192 → r = List.replicate (n + 258 * d) 65)
  | 0, i, n, hi, hP, h1, h2, k => by
    refine ⟨List.replicate n 65, ?_, fun _ => rfl⟩
    generalize k + 300 + 0 = K
    simp only [match_text_all.l0]
    rw [if_neg (by omega), decide_eq_true (by omega)]
  | d + 1, i, n, hi, hP, h1, h2, k => by
    rw [List.replicate_succ] at hP
    obtain ⟨e1, e2, e3⟩ := rdT hP
    have hK : 300 ≤ k + 300 + d + 1 := by omega
    by_cases h : n + 258 ≤ 8192
    · obtain ⟨r, ih, hr⟩ := all_run ts hts d (i + 1) (n + 258) (by omega) e2 (by omega) h k
      refine ⟨r, ?_, fun h' => (hr (by omega)).trans (congrArg (fun q => List.replicate q (65 : Int)) (by omega))⟩
      rw [show k + 300 + (d + 1) + 1 = (k + 300 + d + 1) + 1 from by omega]
      generalize k + 300 + d + 1 = K at ih hK ⊢
      simp only [match_text_all.l0]
      rw [if_pos (by omega), if_pos (by omega), if_pos (by omega), e1]
      dsimp only
      rw [token_run n h1 h hK, Option.bind_some]
      dsimp only
      rw [if_pos rfl, w64 (by omega) (by omega), show (i : Int) + 1 = ((i + 1 : Nat) : Int) from by omega, ih]
      congr 2
      exact decide_eq_decide.mpr (by omega)
    · have hq : 8192 < n + 258 * (d + 1) := by omega
      refine ⟨List.replicate n 65, ?_, fun h' => absurd h' (Nat.not_le.2 hq)⟩
      rw [show k + 300 + (d + 1) + 1 = (k + 300 + d + 1) + 1 from by omega]
      generalize k + 300 + d + 1 = K at hK ⊢
      simp only [match_text_all.l0]
      rw [if_pos (by omega), if_pos (by omega), if_pos (by omega), e1]
      dsimp only
      rw [token_full n h1 h2 (by omega) hK, Option.bind_some]
      dsimp only
      rw [if_neg (by decide), decide_eq_false (Nat.not_le.2 hq)]
/-- One byte, and d copies of 258 of it. -/
def runs (d : Nat) : List S72 := ⟨65, 0, 0⟩ :: List.replicate d ⟨0, 258, 1⟩
theorem runs_k (d : Nat) (hd : d ≤ 200) {k : Nat} (hk : 700 ≤ k) : ∃ r, match_text_all.f k [] (runs d) = some (decide (1 + 258 * d ≤ 8192), r) ∧ (1 + 258 * d ≤ 8192 → r = List.replicate (1 + 258 * d) 65) := by
  have hl : (runs d).length = d + 1 := by simp [runs]
  obtain ⟨r, h, hr⟩ := all_run (runs d) (by omega) d 1 1 (by omega) rfl (by omega) (by omega) (k - 1 - 300 - d - 1)
  refine ⟨r, ?_, hr⟩
  rw [show k - 1 - 300 - d - 1 + 300 + d + 1 = k - 1 from by omega] at h
  unfold match_text_all.f
  obtain ⟨m, rfl⟩ : ∃ m, k = m + 1 := ⟨k - 1, by omega⟩
  rw [show m + 1 - 1 = m from rfl] at h
  simp only [match_text_all.l0]
  have h1 : rd_T72 (runs d) 0 = ⟨65, 0, 0⟩ := rfl
  rw [if_pos (by omega), if_pos (by omega), if_pos (by omega), h1]
  dsimp only
  rw [token_lit [] 65 (by omega) (by omega) (by simp) m, Option.bind_some]
  dsimp only
  rw [if_pos rfl, show wrap64 (0 + 1) = ((1 : Nat) : Int) from w64 (by omega) (by omega)]
  exact h
theorem two_k (t : S72) (h : ∀ k, match_text_token.f (k + 1) [65] t.f0 t.f1 t.f2 = some (false, [65])) (k : Nat) : match_text_all.f (k + 5) [] [⟨65, 0, 0⟩, t] = some (false, [65]) := by
  have h := h (k + 2)
  have h0 := token_lit [] 65 (by omega) (by omega) (by simp) (k + 4)
  have h1 : rd_T72 [⟨65, 0, 0⟩, t] 0 = ⟨65, 0, 0⟩ := rfl
  have h2 : rd_T72 [⟨65, 0, 0⟩, t] (wrap64 (0 + 1)) = t := by rw [show wrap64 (0 + 1) = ((1 : Nat) : Int) from w64 (by omega) (by omega)]; rfl
  unfold match_text_all.f
  show match_text_all.l0 ((k + 3 + 1) + 1) _ _ _ _ = _
  rw [show k + 4 = k + 3 + 1 from rfl] at h0
  rw [show k + 2 + 1 = k + 3 from rfl] at h
  generalize k + 3 = K at h h0 ⊢
  have hl : [(⟨65, 0, 0⟩ : S72), t].length = 2 := rfl
  have e1 : wrap64 (0 + 1) = 1 := w64 (by omega) (by omega)
  rw [match_text_all.l0, hl, if_pos (by omega), if_pos (by omega), if_pos (by omega), h1]
  dsimp only
  rw [h0, Option.bind_some]
  dsimp only
  rw [if_pos rfl, match_text_all.l0, h2, e1, if_pos (by omega), if_pos (by omega), if_pos (by omega)]
  rw [show ([] : List Int) ++ [65] = [65] from rfl, h, Option.bind_some]
  dsimp only
  rw [if_neg (by decide)]
end Go.Proofs.Ytnjbbfcknijcnaa.M
