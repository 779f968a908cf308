import Derived.Test.YtnjbbfcknijcnaaMatchEM
import Derived.Test.YtnjbbfcknijcnaaM6
namespace Go.Proofs.Ytnjbbfcknijcnaa.Pure
set_option linter.unusedVariables false
set_option linter.unusedSimpArgs false
open Go.RowKit Go.Proofs.Ytnjbbfcknijcnaa.M Go.Proofs.YtnjbbfcknijcnaaW.PrintWords Go.Proofs.YtnjbbfcknijcnaaW.PrintLast
theorem piece (s : ByteArray) (a b : Nat) (ha : a + 3 ≤ s.size) (hb : b + 3 ≤ s.size) (h : (s.extract a (a + 3)).toList = (s.extract b (b + 3)).toList) : ∀ j, j < 3 → bt s ((a + j : Nat) : Int) = bt s ((b + j : Nat) : Int) := by
  intro j hj
  rw [ByteArray.toList_eq, ByteArray.toList_eq] at h
  have h1 := congrArg (fun l => l[j]?) h
  simp only [ByteArray.data_extract, Array.toList_extract, List.extract_eq_take_drop, List.getElem?_take, List.getElem?_drop] at h1
  rw [if_pos (by omega), if_pos (by omega)] at h1
  have hz : s.data.toList.length = s.size := rfl
  rw [List.getElem?_eq_getElem (by omega), List.getElem?_eq_getElem (by omega)] at h1
  injection h1 with h1
  have e1 : bt s ((a + j : Nat) : Int) = ((s[a + j]'(by omega)).toNat : Int) := (bt_at s ((a + j : Nat) : Int) (by omega)).symm
  have e2 : bt s ((b + j : Nat) : Int) = ((s[b + j]'(by omega)).toNat : Int) := (bt_at s ((b + j : Nat) : Int) (by omega)).symm
  rw [e1, e2]
  exact congrArg (fun c : UInt8 => (c.toNat : Int)) h1
theorem back_l1 (s : ByteArray) (ts : List S72) (p i : Nat) (hn : s.size ≤ 300) (hi : i < 300) (hp : p < s.size) (hno : ∀ L D, ¬ IsM s p L D) (R : Nat) (hl : ∀ K, R ≤ K → portagelaw5_MatchBack.l0 K s ts ((p + 1 : Nat) : Int) ((i + 1 : Nat) : Int) = some true) :
    ∀ (e j : Nat), j + e = p → ∀ K, R + 2 * e + 2 ≤ K → portagelaw5_MatchBack.l1 K s ts (p : Int) (i : Int) (j : Int) = some true := by
  have fin : ∀ K j, R + 1 ≤ K → portagelaw5_MatchBack.j3 K s ts (p : Int) (i : Int) (j : Int) false = some true := by
    intro K j hK
    obtain ⟨m, rfl⟩ : ∃ m, K = m + 1 := ⟨K - 1, by omega⟩
    simp only [portagelaw5_MatchBack.j3]
    rw [if_neg (by decide), w64 (by omega) (by omega), w64 (by omega) (by omega)]
    exact hl m (by omega)
  intro e
  induction e with
  | zero =>
    intro j hj K hK
    obtain ⟨m, rfl⟩ : ∃ m, K = m + 1 := ⟨K - 1, by omega⟩
    simp only [portagelaw5_MatchBack.l1]
    rw [if_neg (by omega)]
    exact fin m j (by omega)
  | succ e ih =>
    intro j hj K hK
    obtain ⟨m, rfl⟩ : ∃ m, K = m + 1 + 1 := ⟨K - 2, by omega⟩
    simp only [portagelaw5_MatchBack.l1]
    rw [if_pos (by omega), w64 (by omega) (by omega)]
    by_cases h3 : p + 3 ≤ s.size
    · rw [decide_eq_true (by omega)]
      simp only [portagelaw5_MatchBack.j3]
      rw [if_pos trivial, w64 (by omega) (by omega), w64 (by omega) (by omega), if_pos (by omega), if_pos (by omega), if_pos (by omega), if_pos (by omega), if_pos (by omega), if_pos (by omega), w64 (by omega) (by omega)]
      rw [show ((j : Int)).toNat = j from by omega, show ((j : Int) + 3).toNat = j + 3 from by omega, show ((p : Int)).toNat = p from by omega, show ((p : Int) + 3).toNat = p + 3 from by omega]
      rw [if_neg (fun h => hno 3 (p - j) ⟨by omega, by omega, by omega, by omega, h3, fun q hq => by
        rw [show p + q - (p - j) = j + q from by omega]
        exact (piece s j p (by omega) h3 h q hq).symm⟩)]
      exact ih (j + 1) (by omega) m (by omega)
    · rw [decide_eq_false (by omega)]
      exact fin (m + 1) j (by omega)
theorem back_l0 (s : ByteArray) (ts : List S72) (hn : s.size ≤ 300) (hts : ts.length ≤ 300) : ∀ (d i p : Nat), i + d = ts.length → Parse s (ts.drop i) p → ∀ K, 700 * d + 1 ≤ K → portagelaw5_MatchBack.l0 K s ts (p : Int) (i : Int) = some true
  | 0, i, p, hi, hP, K, hK => by
    rw [List.drop_eq_nil_of_le (by omega)] at hP
    have hp : p = s.size := hP
    obtain ⟨m, rfl⟩ : ∃ m, K = m + 1 := ⟨K - 1, by omega⟩
    simp only [portagelaw5_MatchBack.l0]
    rw [if_neg (by omega), hp]
    simp
  | d + 1, i, p, hi, hP, K, hK => by
    have hd := List.drop_eq_getElem_cons (by omega : i < ts.length)
    rw [hd] at hP
    obtain ⟨h1, h2, h3⟩ := rdT hd
    generalize ts[i] = t at hP h1
    obtain ⟨m, rfl⟩ : ∃ m, K = m + 1 := ⟨K - 1, by omega⟩
    simp only [portagelaw5_MatchBack.l0]
    rw [if_pos (by omega), if_pos (by omega), h1]
    obtain ⟨hp, h | h⟩ := hP
    · obtain ⟨rfl, hno, hP⟩ := h
      dsimp only
      rw [if_neg (by omega)]
      exact back_l1 s ts p i hn (by omega) hp hno (700 * d + 1) (back_l0 s ts hn hts d (i + 1) (p + 1) (by omega) hP) p 0 (by omega) m (by omega)
    · obtain ⟨L, D, rfl, hM, _, _, hP⟩ := h
      obtain ⟨a1, a2, a3, a4, a5, a6⟩ := hM
      dsimp only
      rw [if_pos (by omega), w64 (by omega) (by omega), w64 (by omega) (by omega)]
      exact back_l0 s ts hn hts d (i + 1) (p + L) (by omega) hP m (by omega)
theorem MatchBack : portagelaw5_MatchBack.Pure := by
  intro s _
  by_cases hn : s.size ≤ 300
  · obtain ⟨ts, hP, hts, h⟩ := tokens_k s hn
    refine ⟨300000, ?_⟩
    obtain ⟨hE, hM⟩ := expand_k s ts hn (by omega) hP (k := 300000) (by omega)
    have hb := back_l0 s ts hn (by omega) ts.length 0 0 (by omega) hP 299999 (by omega)
    have h := h 300000 (by omega)
    have ha := awake_true (k := 300000) (by omega)
    generalize hK : 300000 = K at *
    obtain ⟨m, rfl⟩ : ∃ m, K = m + 1 := ⟨K - 1, by omega⟩
    rw [show (299999 : Nat) = m from by omega] at hb
    unfold portagelaw5_MatchBack.f
    rw [ha, Option.bind_some, if_pos rfl, h, Option.bind_some, if_neg (by omega)]
    dsimp only
    rw [hE, Option.bind_some]
    dsimp only
    rw [num_k, Option.bind_some, if_pos rfl, Option.bind_some, if_pos rfl, if_pos rfl, hM, Option.bind_some]
    simp only [portagelaw5_MatchBack.j0]
    rw [if_neg (by decide)]
    exact hb
  · refine ⟨40, ?_⟩
    unfold portagelaw5_MatchBack.f
    rw [awake_true (by omega), Option.bind_some, if_pos rfl, tokens_long s (by omega), Option.bind_some, if_pos (by omega)]
    rfl
end Go.Proofs.Ytnjbbfcknijcnaa.Pure
