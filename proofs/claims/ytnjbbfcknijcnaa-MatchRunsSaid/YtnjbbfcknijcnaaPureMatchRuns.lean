import Derived.Test.YtnjbbfcknijcnaaMatchRM
import Derived.Test.YtnjbbfcknijcnaaM8
import Derived.Test.YtnjbbfcknijcnaaBits
namespace Go.Proofs.Ytnjbbfcknijcnaa.Pure
set_option linter.unusedVariables false
set_option linter.unusedSimpArgs false
open Go.RowKit Go.Proofs.Ytnjbbfcknijcnaa.M Go.Proofs.YtnjbbfcknijcnaaW.PrintWords Go.Proofs.YtnjbbfcknijcnaaW.PrintLast Go.Proofs.YtnjbbfcknijcnaaW.PrintMore
theorem bt_str (c : Int) (h0 : 0 ≤ c) (h1 : c < 256) (n i : Nat) (h : i < n) : bt (strOfNums (List.replicate n c)) (i : Int) = c := by
  have hz : (strOfNums (List.replicate n c)).size = n := by rw [strOfNums_size, List.length_replicate]
  have e1 := (bt_at (strOfNums (List.replicate n c)) (i : Int) (by omega)).symm
  rw [e1]
  have h2 : (strOfNums (List.replicate n c)).data.toList[i]? = some (UInt8.ofNat c.toNat) := by
    rw [strOfNums_data, List.getElem?_map, List.getElem?_replicate, if_pos h]; rfl
  have hz2 : (strOfNums (List.replicate n c)).data.toList.length = n := hz
  rw [List.getElem?_eq_getElem (by omega)] at h2
  injection h2 with h2
  have h3 : (strOfNums (List.replicate n c))[(i : Int).toNat]'(by omega) = UInt8.ofNat c.toNat := h2
  rw [h3, UInt8.toNat_ofNat_of_lt' (show c.toNat < UInt8.size by show c.toNat < 256; omega)]
  omega
theorem same_l0 (x : List S72) (hl : x.length ≤ 4611686018427387904) : ∀ (d i : Nat), i + d = x.length → ∀ K, d + 1 ≤ K → portagelaw0_SameTokens.l0 K x x (i : Int) = some true
  | 0, i, hi, K, hK => by
    obtain ⟨m, rfl⟩ : ∃ m, K = m + 1 := ⟨K - 1, by omega⟩
    simp only [portagelaw0_SameTokens.l0]
    rw [if_neg (by omega)]
  | d + 1, i, hi, K, hK => by
    obtain ⟨m, rfl⟩ : ∃ m, K = m + 1 := ⟨K - 1, by omega⟩
    have ih := same_l0 x hl d (i + 1) (by omega) m (by omega)
    simp only [portagelaw0_SameTokens.l0]
    rw [if_pos (by omega), if_pos (by omega), if_pos (by omega), if_neg (by simp), w64 (by omega) (by omega)]
    exact ih
theorem same_k (x : List S72) (hl : x.length ≤ 300) {K : Nat} (hK : 400 ≤ K) : portagelaw0_SameTokens.f K x x = some true := by
  unfold portagelaw0_SameTokens.f
  rw [if_pos rfl]
  exact same_l0 x (by omega) x.length 0 (by omega) K (by omega)
theorem run_l1 (b c : Int) (s : ByteArray) (ts : List S72) (hn : s.size ≤ 300) (hts : ts.length ≤ 300) (hb : Go.bits .and .i64 b 255 = c) (hs : ∀ i, i < s.size → bt s (i : Int) = c) :
    ∀ (d left p : Nat) (acc rest : List S72), left ≤ d → p + left = s.size → 1 ≤ p → Parse s rest p → acc ++ rest = ts → ∀ K, 500 + left ≤ K → portagelaw5_MatchRuns.l1 K b ts 0 acc (left : Int) = some true := by
  have hrun : ∀ p L D, 3 ≤ L → L ≤ 258 → 1 ≤ D → D ≤ p → p + L ≤ s.size → IsM s p L D := fun p L D h1 h2 h3 h4 h5 => ⟨h1, h2, h3, h4, h5, fun j hj => by rw [hs _ (by omega), hs _ (by omega)]⟩
  intro d
  induction d with
  | zero =>
    intro left p acc rest hd hp h1 hP ha K hK
    obtain rfl : left = 0 := by omega
    match rest, hP with
    | [], _ =>
      rw [List.append_nil] at ha
      subst ha
      obtain ⟨m, rfl⟩ : ∃ m, K = m + 1 := ⟨K - 1, by omega⟩
      have hS := same_k acc hts (K := m) (by omega)
      simp only [portagelaw5_MatchRuns.l1]
      rw [if_neg (by omega), num_k, Option.bind_some, if_pos rfl, hS, Option.bind_some]
    | t :: r, hP => have := hP.1; omega
  | succ d ih =>
    intro left p acc rest hd hp h1 hP ha K hK
    by_cases h0 : left = 0
    · exact ih left p acc rest (by omega) hp h1 hP ha K hK
    · match rest, hP with
      | [], hP => have : p = s.size := hP; omega
      | t :: r, hP =>
        have hla : acc.length < 300 := by
          have := congrArg List.length ha
          simp at this; omega
        obtain ⟨m, rfl⟩ : ∃ m, K = m + 1 := ⟨K - 1, by omega⟩
        simp only [portagelaw5_MatchRuns.l1]
        rw [if_pos (by omega)]
        by_cases h3 : left < 3
        · rw [if_pos (by unfold mn; split <;> omega), if_pos (by omega), w64 (by omega) (by omega), hb]
          rcases hP.2 with ⟨rfl, _, hP⟩ | ⟨L, D, _, hM, _⟩
          · rw [hs p (by omega)] at ha
            have := ih (left - 1) (p + 1) (acc ++ [⟨c, 0, 0⟩]) r (by omega) (by omega) (by omega) hP (by rw [List.append_assoc]; exact ha) m (by omega)
            rw [show (left : Int) - 1 = ((left - 1 : Nat) : Int) from by omega]
            exact this
          · have := hM.1; have := hM.2.2.2.2.1; omega
        · rw [if_neg (by unfold mn; split <;> omega), if_pos (by omega)]
          have hm : ∃ q : Nat, mn (left : Int) 258 = (q : Int) ∧ 3 ≤ q ∧ q ≤ 258 ∧ q ≤ left ∧ (q = 258 ∨ q = left) := by
            unfold mn; split
            · exact ⟨258, rfl, by omega⟩
            · exact ⟨left, rfl, by omega⟩
          obtain ⟨q, e, q1, q2, q3, q4⟩ := hm
          rw [e, w64 (by omega) (by omega)]
          have hq := hrun p q 1 q1 q2 (by omega) h1 (by omega)
          rcases hP.2 with ⟨_, hno, _⟩ | ⟨L, D, rfl, hM, hmx, hnr, hP'⟩
          · exact absurd hq (hno _ _)
          · have a1 := hmx _ _ hq
            have hL : L = q := by
              have b1 := hM.2.1; have b2 := hM.2.2.2.2.1
              omega
            subst hL
            have hD : D = 1 := by
              rcases Nat.lt_or_ge 1 D with h | h
              · exact absurd hq (hnr 1 h)
              · have := hM.2.2.1; omega
            subst hD
            have := ih (left - L) (p + L) (acc ++ [⟨0, (L : Int), 1⟩]) r (by omega) (by omega) (by omega) hP' (by rw [List.append_assoc]; exact ha) m (by omega)
            rw [show (left : Int) - (L : Int) = ((left - L : Nat) : Int) from by omega]
            exact this
theorem fill_l0 (b c : Int) (n : Nat) (hn : n ≤ 300) (hc : b % 256 = c) : ∀ (d i : Nat), i + d = n → ∀ K, portagelaw5_MatchRuns.l0 (K + d) b (n : Int) (List.replicate i c ++ List.replicate d 0) (i : Int) = portagelaw5_MatchRuns.l0 K b (n : Int) (List.replicate n c) (n : Int)
  | 0, i, hi, K => by simp [show i = n from by omega]
  | d + 1, i, hi, K => by
    have ih := fill_l0 b c n hn hc d (i + 1) (by omega) K
    rw [← ih, show K + (d + 1) = (K + d) + 1 from by omega]
    generalize K + d = M
    conv => lhs; unfold portagelaw5_MatchRuns.l0
    rw [if_pos (by omega), if_pos (by omega), if_pos (by simp; omega), hc, w64 (by omega) (by omega)]
    have hs : (List.replicate i c ++ List.replicate (d + 1) 0).set (i : Int).toNat c = List.replicate (i + 1) c ++ List.replicate d 0 := by
      rw [show (i : Int).toNat = i from by omega, List.set_append_right _ _ (by simp), List.length_replicate, Nat.sub_self, List.replicate_succ, List.set_cons_zero, List.replicate_succ' (n := i), List.append_assoc]
      rfl
    rw [hs, show (i : Int) + 1 = ((i + 1 : Nat) : Int) from by omega]
theorem MatchRuns : portagelaw5_MatchRuns.Pure := by
  intro b many _ _
  obtain ⟨n, hn, en⟩ := pick many 301 (by omega) (by omega)
  have en : wrap64 (Int.tmod (IntKind.u64.wrap many) 301) = (n : Int) := en
  refine ⟨3000, ?_⟩
  have hw := awake_true (k := 3000) (by omega)
  have hc : 0 ≤ b % 256 ∧ b % 256 < 256 := by omega
  have hb : Go.bits .and .i64 b 255 = b % 256 := Bits.and_8 b
  unfold portagelaw5_MatchRuns.f
  rw [hw, Option.bind_some, if_pos rfl, en, if_pos (by omega), if_pos (by omega), show ((n : Int)).toNat = n from by omega]
  have hf := fill_l0 b (b % 256) n (by omega) rfl n 0 (by omega) (3000 - n)
  rw [show 3000 - n + n = 3000 from by omega, List.replicate_zero, List.nil_append] at hf
  refine hf.trans ?_
  have hz : (strOfNums (List.replicate n (b % 256))).size = n := by rw [strOfNums_size, List.length_replicate]
  have hs : ∀ i, i < (strOfNums (List.replicate n (b % 256))).size → bt (strOfNums (List.replicate n (b % 256))) (i : Int) = b % 256 := fun i hi => bt_str _ hc.1 hc.2 n i (by omega)
  obtain ⟨ts, hP, hts, ht⟩ := tokens_k (strOfNums (List.replicate n (b % 256))) (by omega)
  obtain ⟨m, hm, em⟩ : ∃ m, 2690 ≤ m ∧ 3000 - n = m + 1 + 1 := ⟨3000 - n - 2, by omega, by omega⟩
  rw [em]
  have ht := ht (m + 1) (by omega)
  rw [portagelaw5_MatchRuns.l0, if_neg (by omega), ht, Option.bind_some]
  dsimp only
  generalize strOfNums (List.replicate n (b % 256)) = s at *
  by_cases h0 : n = 0
  · subst h0
    rw [if_neg (by omega), portagelaw5_MatchRuns.j1]
    match ts, hP with
    | [], _ =>
      obtain ⟨q, rfl⟩ : ∃ q, m = q + 1 := ⟨m - 1, by omega⟩
      rw [portagelaw5_MatchRuns.l1, if_neg (by omega), num_k, Option.bind_some, if_pos rfl, same_k [] (by simp) (by omega), Option.bind_some]
    | t :: r, hP => have := hP.1; omega
  · rw [if_pos (by omega), if_pos (by simp), portagelaw5_MatchRuns.j1, hb, w64 (by omega) (by omega), List.nil_append, show (n : Int) - 1 = ((n - 1 : Nat) : Int) from by omega]
    match ts, hP with
    | [], hP => have : 0 = s.size := hP; omega
    | t :: r, hP =>
      rcases hP.2 with ⟨rfl, _, hP⟩ | ⟨L, D, _, hM, _⟩
      · have h1 := hs 0 (by omega)
        rw [h1]
        rw [h1] at ht
        exact run_l1 b (b % 256) s _ (by omega) (by simpa [hz] using (show (⟨b % 256, 0, 0⟩ :: r : List S72).length ≤ 300 by simp at hts ⊢; omega)) hb hs 300 (n - 1) 1 [⟨b % 256, 0, 0⟩] r (by omega) (by omega) (by omega) hP rfl m (by omega)
      · have := hM.2.2.1; have := hM.2.2.2.1; omega
end Go.Proofs.Ytnjbbfcknijcnaa.Pure
