/- Chapter 5: what a text's tokens come to, over plain lists and bytes. -/
import Derived.Test.YtnjbbfcknijcnaaMatchLN
import Derived.Test.YtnjbbfcknijcnaaN9
namespace Go.Proofs.Ytnjbbfcknijcnaa.N
set_option linter.unusedVariables false
set_option linter.unusedSimpArgs false
open Go.RowKit Go.Proofs.YtnjbbfcknijcnaaW.PrintWords Go.Proofs.YtnjbbfcknijcnaaW.PrintLast Go.Proofs.YtnjbbfcknijcnaaW.PrintMore
/-- The first p bytes, as numbers. -/
def pre (s : ByteArray) (p : Nat) : List Int := (List.range p).map fun i : Nat => bt s (i : Int)
theorem pre_length (s : ByteArray) (p : Nat) : (pre s p).length = p := by simp [pre]
theorem pre_succ (s : ByteArray) (p : Nat) : pre s (p + 1) = pre s p ++ [bt s (p : Int)] := by simp [pre, List.range_succ]
theorem pre_rd (s : ByteArray) (p i : Nat) (h : i < p) : rd (pre s p) (i : Int) = bt s (i : Int) := by
  unfold rd pre
  simp [h]
theorem rdT {l : List S72} {i : Nat} {t : S72} {r : List S72} (h : l.drop i = t :: r) : rd_T72 l (i : Int) = t ∧ l.drop (i + 1) = r ∧ i < l.length := by
  have hi : i < l.length := by
    rcases Nat.lt_or_ge i l.length with h' | h'
    · exact h'
    · rw [List.drop_eq_nil_of_le h'] at h; exact absurd h (by simp)
  rw [List.drop_eq_getElem_cons hi] at h
  injection h with h1 h2
  refine ⟨?_, h2, hi⟩
  unfold rd_T72
  rw [show ((i : Int)).toNat = i from by omega, List.getD_eq_getElem?_getD, List.getElem?_eq_getElem hi]
  exact h1
theorem token_lit (out : List Int) (c : Int) (h0 : 0 ≤ c) (h1 : c ≤ 255) (hl : out.length < 8192) (k : Nat) : match_text_token.f k out c 0 0 = some (true, out ++ [c]) := by
  unfold match_text_token.f
  rw [if_pos rfl, if_neg (by omega), if_neg (by omega), if_pos rfl, if_neg (by omega), if_pos (by omega), show c % 256 = c from by omega]
theorem token_l0 (out : List Int) (L D : Nat) (hD : 1 ≤ D) (hDo : D ≤ out.length) (hl : out.length + L < 9000) (g : Nat → Int)
    (hg : ∀ i, i < out.length → g i = rd out (i : Int)) (hc : ∀ j, j < L → g (out.length + j) = g (out.length + j - D)) :
    ∀ (d i : Nat), i + d = L → ∀ k, match_text_token.l0 (k + d + 1) (L : Int) (i : Int) ((List.range (out.length + i)).map g) 0 (L : Int) (D : Int) = some (true, (List.range (out.length + L)).map g)
  | 0, i, hi, k => by
    simp only [match_text_token.l0]
    rw [if_neg (by omega), show i = L from by omega]
  | d + 1, i, hi, k => by
    have ih := token_l0 out L D hD hDo hl g hg hc d (i + 1) (by omega) k
    rw [show k + (d + 1) + 1 = (k + d + 1) + 1 from by omega]
    generalize k + d + 1 = K at ih ⊢
    simp only [match_text_token.l0]
    have hlen : ((List.range (out.length + i)).map g).length = out.length + i := by simp
    rw [hlen, if_pos (by omega), w64 (by omega) (by omega), if_pos (by omega), if_pos (by omega), if_pos (by omega), w64 (by omega) (by omega),
      show ((out.length + i : Nat) : Int) - (D : Int) = ((out.length + i - D : Nat) : Int) from by omega]
    have hr : rd ((List.range (out.length + i)).map g) ((out.length + i - D : Nat) : Int) = g (out.length + i) := by
      rw [hc i (by omega)]
      unfold rd
      rw [show (((out.length + i - D : Nat) : Int)).toNat = out.length + i - D from by omega, List.getD_eq_getElem?_getD, List.getElem?_map, List.getElem?_range (by omega)]
      rfl
    rw [hr, show (List.range (out.length + i)).map g ++ [g (out.length + i)] = (List.range (out.length + (i + 1))).map g from by rw [← Nat.add_assoc, List.range_succ, List.map_append]; rfl]
    exact ih
theorem token_copy (s : ByteArray) (p L D : Nat) (h : IsM s p L D) (hn : s.size ≤ 300) {k : Nat} (hk : 300 ≤ k) : match_text_token.f k (pre s p) 0 (L : Int) (D : Int) = some (true, pre s (p + L)) := by
  obtain ⟨h3, h258, hD1, hDp, hpL, he⟩ := h
  have hl := pre_length s p
  unfold match_text_token.f
  rw [if_neg (by omega), if_pos rfl, if_neg (by omega), if_neg (by omega), if_neg (by omega), if_neg (by rw [hl]; unfold mn; split <;> omega)]
  rw [show (decide (wrap64 (((pre s p).length : Int) + (L : Int)) > 8192)) = false from by rw [hl, w64 (by omega) (by omega)]; exact decide_eq_false (by omega)]
  obtain ⟨m, rfl⟩ : ∃ m, k = (m + L + 1) + 1 := ⟨k - L - 2, by omega⟩
  have := token_l0 (pre s p) L D hD1 (by omega) (by omega) (fun i => bt s (i : Int)) (fun i hi => (pre_rd s p i (by omega)).symm) (by rw [hl]; exact he) L 0 (by omega) m
  generalize m + L + 1 = K at this ⊢
  simp only [match_text_token.j0]
  rw [if_neg (by decide)]
  rw [hl] at this
  exact this
theorem all_l0 (s : ByteArray) (ts : List S72) (hn : s.size ≤ 300) (hts : ts.length ≤ 300) : ∀ (d i p : Nat), i + d = ts.length → Parse s (ts.drop i) p → ∀ k, match_text_all.l0 (k + 300 + d + 1) ts (ts.length : Int) (i : Int) (pre s p) = some (true, pre s s.size)
  | 0, i, p, hi, hP, k => by
    rw [List.drop_eq_nil_of_le (by omega)] at hP
    have hp : p = s.size := hP
    generalize k + 300 + 0 = K
    simp only [match_text_all.l0]
    rw [if_neg (by omega), hp]
  | d + 1, i, p, hi, hP, k => by
    rw [List.drop_eq_getElem_cons (by omega : i < ts.length)] at hP
    have hd := List.drop_eq_getElem_cons (by omega : i < ts.length)
    obtain ⟨h1, h2, h3⟩ := rdT hd
    generalize ts[i] = t at hP h1
    have hr := bt_range s (p : Int)
    have hl := pre_length s p
    obtain ⟨hp, h | h⟩ := hP
    · obtain ⟨rfl, _, hP⟩ := h
      have ih := all_l0 s ts hn hts d (i + 1) (p + 1) (by omega) hP k
      rw [show k + 300 + (d + 1) + 1 = (k + 300 + d + 1) + 1 from by omega]
      generalize k + 300 + d + 1 = K at ih ⊢
      simp only [match_text_all.l0]
      rw [if_pos (by omega), if_pos (by omega), if_pos (by omega), h1]
      dsimp only
      rw [token_lit _ _ hr.1 hr.2 (by omega), Option.bind_some]
      dsimp only
      rw [if_pos rfl, w64 (by omega) (by omega), ← pre_succ, show (i : Int) + 1 = ((i + 1 : Nat) : Int) from by omega]
      exact ih
    · obtain ⟨L, D, rfl, hM, _, _, hP⟩ := h
      have ih := all_l0 s ts hn hts d (i + 1) (p + L) (by omega) hP k
      rw [show k + 300 + (d + 1) + 1 = (k + 300 + d + 1) + 1 from by omega]
      have hK : 300 ≤ k + 300 + d + 1 := by omega
      generalize k + 300 + d + 1 = K at ih hK ⊢
      simp only [match_text_all.l0]
      rw [if_pos (by omega), if_pos (by omega), if_pos (by omega), h1]
      dsimp only
      rw [token_copy s p L D hM hn hK, Option.bind_some]
      dsimp only
      rw [if_pos rfl, w64 (by omega) (by omega), show (i : Int) + 1 = ((i + 1 : Nat) : Int) from by omega]
      exact ih
theorem all_k (s : ByteArray) (ts : List S72) (hn : s.size ≤ 300) (hts : ts.length ≤ 300) (hP : Parse s ts 0) {k : Nat} (hk : 700 ≤ k) : match_text_all.f k [] ts = some (true, pre s s.size) := by
  have := all_l0 s ts hn hts ts.length 0 0 (by omega) hP (k - 300 - ts.length - 1)
  rw [show k - 300 - ts.length - 1 + 300 + ts.length + 1 = k from by omega] at this
  exact this
theorem str_pre (s : ByteArray) : strOfNums (pre s s.size) = s := by
  apply Go.WideShapes.bytes_inj
  rw [strOfNums_data]
  apply List.ext_getElem?
  intro i
  have hz : s.data.toList.length = s.size := rfl
  by_cases h : i < s.size
  · rw [List.getElem?_eq_getElem (by omega : i < s.data.toList.length)]
    have h1 : (pre s s.size)[i]? = some (bt s (i : Int)) := by
      unfold pre
      rw [List.getElem?_map, List.getElem?_range h]; rfl
    rw [List.getElem?_map, h1]
    have hb : bt s (i : Int) = ((s[i]'h).toNat : Int) := (bt_at s (i : Int) (by omega)).symm
    simp only [Option.map_some, hb]
    congr 1
    exact UInt8.ofNat_toNat
  · rw [List.getElem?_eq_none (by rw [List.length_map, pre_length]; omega), List.getElem?_eq_none (by omega)]
theorem expand_k (s : ByteArray) (ts : List S72) (hn : s.size ≤ 300) (hts : ts.length ≤ 300) (hP : Parse s ts 0) {k : Nat} (hk : 700 ≤ k) : match_Expand.f k ts = some (s, 0) ∧ match_May.f k ts = some true := by
  unfold match_Expand.f match_May.f
  rw [all_k s ts hn hts hP hk, Option.bind_some, Option.bind_some, if_pos rfl, str_pre]
  exact ⟨rfl, rfl⟩
theorem awake_true {k : Nat} (hk : 40 ≤ k) : portagelaw5_awake.f k = some true := at_rounds (g := fun k => portagelaw5_awake.f k) portagelaw5_awake.mono hk (by decide +kernel)
theorem num_k (n : Int) : portagelaw0_Num.f n = some n := rfl
end Go.Proofs.Ytnjbbfcknijcnaa.N
