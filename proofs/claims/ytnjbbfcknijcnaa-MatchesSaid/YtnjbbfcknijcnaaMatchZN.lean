/- Chapter 5: the law 'Matches' over plain lists. -/
import Derived.Test.YtnjbbfcknijcnaaMatchYN
import Derived.Test.YtnjbbfcknijcnaaN10
namespace Go.Proofs.Ytnjbbfcknijcnaa.N
set_option linter.unusedVariables false
set_option linter.unusedSimpArgs false
open Go.RowKit Go.Proofs.YtnjbbfcknijcnaaW.PrintWords Go.Proofs.YtnjbbfcknijcnaaW.PrintLast Go.Proofs.YtnjbbfcknijcnaaW.PrintMore
theorem sameT_l0 (x : List S72) (hl : x.length ≤ 4611686018427387904) : ∀ (d i : Nat), i + d = x.length → ∀ K, d + 1 ≤ K → portagelaw0_SameTokens.l0 K x x (i : Int) = some true
  | 0, i, hi, K, hK => by
    obtain ⟨m, rfl⟩ : ∃ m, K = m + 1 := ⟨K - 1, by omega⟩
    rw [portagelaw0_SameTokens.l0, if_neg (by omega)]
  | d + 1, i, hi, K, hK => by
    obtain ⟨m, rfl⟩ : ∃ m, K = m + 1 := ⟨K - 1, by omega⟩
    have ih := sameT_l0 x hl d (i + 1) (by omega) m (by omega)
    rw [portagelaw0_SameTokens.l0, if_pos (by omega), if_pos (by omega), if_pos (by omega), if_neg (by simp), w64 (by omega) (by omega)]
    exact ih
theorem sameT_k (x : List S72) (hl : x.length ≤ 4611686018427387904) {K : Nat} (hK : x.length + 1 ≤ K) : portagelaw0_SameTokens.f K x x = some true := by
  unfold portagelaw0_SameTokens.f
  rw [if_pos rfl]
  exact sameT_l0 x hl x.length 0 (by omega) K (by omega)
theorem lendT_k (l : List S72) (hl : l.length + 2 < 5864062014805) : portagelaw0_LendTokens.f l = some (l, l ++ [⟨77777, 0, 0⟩, ⟨77777, 0, 0⟩]) := by
  unfold portagelaw0_LendTokens.f portagelaw0_CopyTokens.f
  rw [Option.bind_some, if_pos (by simp; omega), Option.bind_some, Option.bind_some, if_pos (by simp; omega), Option.bind_some, if_pos (by omega), if_pos (by simp; omega)]
  simp
theorem keptT_k (l : List S72) (hl : l.length ≤ 2305843009213693952) {k : Nat} (hk : l.length + 1 ≤ k) : portagelaw0_KeptTokens.f k l (l ++ [⟨77777, 0, 0⟩, ⟨77777, 0, 0⟩]) l = some true := by
  unfold portagelaw0_KeptTokens.f
  have e : wrap64 ((l.length : Int) + 2) = ((l.length + 2 : Nat) : Int) := by rw [w64 (by omega) (by omega)]; omega
  have e1 : wrap64 ((l.length : Int) + 1) = ((l.length + 1 : Nat) : Int) := by rw [w64 (by omega) (by omega)]; omega
  have hl2 : (l ++ [⟨77777, 0, 0⟩, ⟨77777, 0, 0⟩] : List S72).length = l.length + 2 := by simp
  have ht : (l ++ [⟨77777, 0, 0⟩, ⟨77777, 0, 0⟩] : List S72).take (l.length + 2) = l ++ [⟨77777, 0, 0⟩, ⟨77777, 0, 0⟩] := List.take_of_length_le (by omega)
  rw [e, if_pos (by omega), if_pos (by omega), show (((l.length + 2 : Nat) : Int)).toNat = l.length + 2 from by omega, ht, Option.bind_some, sameT_k l (by omega) hk, Option.bind_some, if_pos rfl, if_pos (by omega), if_pos (by omega)]
  have r1 : rd_T72 (l ++ [⟨77777, 0, 0⟩, ⟨77777, 0, 0⟩]) (l.length : Int) = ⟨77777, 0, 0⟩ := by
    unfold rd_T72; rw [show ((l.length : Int)).toNat = l.length from by omega, List.getD_eq_getElem?_getD, List.getElem?_append_right (by omega), Nat.sub_self]; rfl
  have r2 : rd_T72 (l ++ [⟨77777, 0, 0⟩, ⟨77777, 0, 0⟩]) ((l.length + 1 : Nat) : Int) = ⟨77777, 0, 0⟩ := by
    unfold rd_T72; rw [show (((l.length + 1 : Nat) : Int)).toNat = l.length + 1 from by omega, List.getD_eq_getElem?_getD, List.getElem?_append_right (by omega), show l.length + 1 - l.length = 1 from by omega]; rfl
  rw [r1, if_pos (by decide), e1, if_pos (by omega), if_pos (by omega), r2]
  rfl
theorem spoilT_l0 : ∀ (d i : Nat) (l : List S72), i + d = l.length → l.length ≤ 1000 → ∀ K, d + 1 ≤ K → ∃ r, portagelaw0_SpoilTokens.l0 K l (i : Int) = some r
  | 0, i, l, hi, hs, K, hK => by
    obtain ⟨m, rfl⟩ : ∃ m, K = m + 1 := ⟨K - 1, by omega⟩
    exact ⟨l, by rw [portagelaw0_SpoilTokens.l0, if_neg (by omega)]⟩
  | d + 1, i, l, hi, hs, K, hK => by
    obtain ⟨m, rfl⟩ : ∃ m, K = m + 1 := ⟨K - 1, by omega⟩
    obtain ⟨r, hr⟩ := spoilT_l0 d (i + 1) (l.set (i : Int).toNat ⟨Go.bits .xor .i64 ((rd_T72 l (i : Int)).f0) 90, (rd_T72 l (i : Int)).f1, (rd_T72 l (i : Int)).f2⟩) (by simp; omega) (by simp; omega) m (by omega)
    refine ⟨r, ?_⟩
    rw [portagelaw0_SpoilTokens.l0, if_pos (by omega), if_pos (by omega), w64 (n := (i : Int) + 1) (by omega) (by omega), show (i : Int) + 1 = ((i + 1 : Nat) : Int) from by omega]
    exact hr
theorem matches_k (s : ByteArray) (ts : List S72) (hts : ts.length ≤ 5864062014634) : ∃ k, portagelaw5_Matches.f k s ts = some true := by
  obtain ⟨k, hk⟩ : ∃ k, k = 300 * ts.length + 100000 := ⟨_, rfl⟩
  refine ⟨k, ?_⟩
  obtain ⟨a, e, ha, h1⟩ := reftokens_k s
  obtain ⟨h1, h2⟩ := h1 k (by omega)
  obtain ⟨z, f, m, h3, h4, h5, h6⟩ := refexpand_k ts (by omega) (k := k) (by omega)
  obtain ⟨r, h7⟩ := spoilT_l0 a.length 0 a (by omega) (by omega) k (by omega)
  have h7 : portagelaw0_SpoilTokens.f k a = some r := h7
  unfold portagelaw5_Matches.f
  rw [lendT_k ts (by omega), Option.bind_some]
  dsimp only
  rw [h1, Option.bind_some, h2, Option.bind_some, h3, Option.bind_some, h4, Option.bind_some]
  dsimp only
  rw [sameT_k a (by omega) (by omega), Option.bind_some, if_pos rfl, num_k, Option.bind_some, if_pos rfl, if_pos rfl, num_k, Option.bind_some, if_pos rfl, h5, Option.bind_some, h6, Option.bind_some, if_neg (by simp), h7, Option.bind_some,
    keptT_k ts (by omega) (by omega), Option.bind_some, if_pos rfl, awake_true (by omega)]
  rfl
end Go.Proofs.Ytnjbbfcknijcnaa.N
