/- Chapter 5: what any tokens come to, by the program and by the reference; what is lent is kept. -/
import Derived.Test.YtnjbbfcknijcnaaMatchXN
namespace Go.Proofs.Ytnjbbfcknijcnaa.N
set_option linter.unusedVariables false
set_option linter.unusedSimpArgs false
open Go.RowKit Go.Proofs.YtnjbbfcknijcnaaW.PrintWords Go.Proofs.YtnjbbfcknijcnaaW.PrintLast Go.Proofs.YtnjbbfcknijcnaaW.PrintMore
/-- m bytes more, each from D back. -/
def cp (D : Nat) : Nat → List Int → List Int
  | 0, out => out
  | m + 1, out => cp D m (out ++ [rd out ((out.length - D : Nat) : Int)])
theorem cp_length (D : Nat) : ∀ m out, (cp D m out).length = out.length + m
  | 0, out => rfl
  | m + 1, out => by rw [cp, cp_length D m]; simp; omega
def okT (n : Nat) (t : S72) : Bool := if t.f1 = 0 then decide (0 ≤ t.f0 ∧ t.f0 ≤ 255 ∧ t.f2 = 0 ∧ n < 8192) else decide (t.f0 = 0 ∧ 3 ≤ t.f1 ∧ t.f1 ≤ 258 ∧ 1 ≤ t.f2 ∧ t.f2 ≤ (n : Int) ∧ t.f2 ≤ 32768 ∧ (n : Int) + t.f1 ≤ 8192)
def outT (out : List Int) (t : S72) : List Int := if t.f1 = 0 then out ++ [t.f0] else cp t.f2.toNat t.f1.toNat out
theorem outT_length {out : List Int} {t : S72} (h : okT out.length t = true) : (outT out t).length ≤ 8192 ∧ ((outT out t).length : Int) = (out.length : Int) + (if t.f1 = 0 then 1 else t.f1) := by
  unfold outT
  unfold okT at h
  split at h
  · rename_i h1
    rw [if_pos h1, if_pos h1]
    simp only [decide_eq_true_eq] at h
    simp; omega
  · rename_i h1
    rw [if_neg h1, if_neg h1, cp_length]
    simp only [decide_eq_true_eq] at h
    omega
theorem cp_l0 (D : Nat) (L : Nat) (c : Int) (hD : 1 ≤ D) (hL : L ≤ 8192) : ∀ (d : Nat) (i : Nat) (out : List Int), i + d = L → D ≤ out.length → out.length + d ≤ 8192 → ∀ K, d + 1 ≤ K → match_text_token.l0 K (L : Int) (i : Int) out c (L : Int) (D : Int) = some (true, cp D d out)
  | 0, i, out, hi, ho, hl, K, hK => by
    obtain ⟨q, rfl⟩ : ∃ q, K = q + 1 := ⟨K - 1, by omega⟩
    rw [match_text_token.l0, if_neg (by omega)]; rfl
  | d + 1, i, out, hi, ho, hl, K, hK => by
    obtain ⟨q, rfl⟩ : ∃ q, K = q + 1 := ⟨K - 1, by omega⟩
    have ih := cp_l0 D L c hD hL d (i + 1) (out ++ [rd out ((out.length - D : Nat) : Int)]) (by omega) (by simp; omega) (by simp; omega) q (by omega)
    rw [match_text_token.l0, if_pos (by omega), w64 (by omega) (by omega), w64 (by omega) (by omega), if_pos (by omega), if_pos (by omega), if_pos (by omega), show (out.length : Int) - (D : Int) = ((out.length - D : Nat) : Int) from by omega, show (i : Int) + 1 = ((i + 1 : Nat) : Int) from by omega]
    exact ih
theorem token_all (out : List Int) (t : S72) (hl : out.length ≤ 8192) {k : Nat} (hk : 300 ≤ k) : if okT out.length t = true then match_text_token.f k out t.f0 t.f1 t.f2 = some (true, outT out t) else ∃ r, match_text_token.f k out t.f0 t.f1 t.f2 = some (false, r) := by
  obtain ⟨a, b, c⟩ := t
  obtain ⟨m, rfl⟩ : ∃ m, k = m + 1 := ⟨k - 1, by omega⟩
  have hj : ∀ a b c, match_text_token.j0 (m + 1) true out a b c = some (false, out) := fun a b c => by rw [match_text_token.j0, if_pos rfl]
  unfold match_text_token.f
  dsimp only
  by_cases h0 : b = 0
  · have e : okT out.length ⟨a, b, c⟩ = decide (0 ≤ a ∧ a ≤ 255 ∧ c = 0 ∧ out.length < 8192) := by unfold okT; rw [if_pos h0]
    rw [e, if_pos h0]
    by_cases h1 : a < 0
    · rw [if_neg (by simp; omega), if_pos h1]; exact ⟨_, rfl⟩
    by_cases h2 : a > 255
    · rw [if_neg (by simp; omega), if_neg h1, if_pos h2]; exact ⟨_, rfl⟩
    by_cases h3 : c = 0
    · by_cases h4 : (out.length : Int) ≥ 8192
      · rw [if_neg (by simp; omega), if_neg h1, if_neg h2, if_pos h3, if_pos h4]; exact ⟨_, rfl⟩
      · rw [if_pos (by simp; omega), if_neg h1, if_neg h2, if_pos h3, if_neg h4, if_pos (by omega), show a % 256 = a from by omega]
        unfold outT; rw [if_pos h0]
    · rw [if_neg (by simp; omega), if_neg h1, if_neg h2, if_neg h3]; exact ⟨_, rfl⟩
  · have e : okT out.length ⟨a, b, c⟩ = decide (a = 0 ∧ 3 ≤ b ∧ b ≤ 258 ∧ 1 ≤ c ∧ c ≤ (out.length : Int) ∧ c ≤ 32768 ∧ (out.length : Int) + b ≤ 8192) := by unfold okT; rw [if_neg h0]
    have emn : mn (out.length : Int) 32768 = (out.length : Int) := by unfold mn; split <;> omega
    rw [e, if_neg h0, emn]
    by_cases h1 : a = 0
    · rw [if_pos h1]
      by_cases h2 : b < 3
      · rw [if_neg (by simp; omega), if_pos h2]; exact ⟨_, hj _ _ _⟩
      by_cases h3 : b > 258
      · rw [if_neg (by simp; omega), if_neg h2, if_pos h3]; exact ⟨_, hj _ _ _⟩
      by_cases h4 : c < 1
      · rw [if_neg (by simp; omega), if_neg h2, if_neg h3, if_pos h4]; exact ⟨_, hj _ _ _⟩
      by_cases h5 : c > (out.length : Int)
      · rw [if_neg (by simp; omega), if_neg h2, if_neg h3, if_neg h4, if_pos h5]; exact ⟨_, hj _ _ _⟩
      rw [if_neg h2, if_neg h3, if_neg h4, if_neg h5, w64 (by omega) (by omega)]
      by_cases h6 : (out.length : Int) + b > 8192
      · rw [if_neg (by simp; omega), decide_eq_true h6]; exact ⟨_, hj _ _ _⟩
      · rw [if_pos (by simp; omega), decide_eq_false h6, match_text_token.j0, if_neg (by decide)]
        have := cp_l0 c.toNat b.toNat a (by omega) (by omega) b.toNat 0 out (by omega) (by omega) (by omega) m (by omega)
        rw [show ((b.toNat : Nat) : Int) = b from by omega, show ((c.toNat : Nat) : Int) = c from by omega] at this
        unfold outT; rw [if_neg h0]
        exact this
    · rw [if_neg (by simp; omega), if_neg h1]; exact ⟨_, hj _ _ _⟩
/-- Tokens, one behind the other. -/
def exT : List S72 → List Int → Option (List Int)
  | [], out => some out
  | t :: ts, out => if okT out.length t = true then exT ts (outT out t) else none
theorem all_ex (ts : List S72) (hts : ts.length ≤ 4611686018427387904) : ∀ (d i : Nat) (out : List Int), i + d = ts.length → out.length ≤ 8192 → ∀ K, 300 + d + 1 ≤ K → ∃ r, match_text_all.l0 K ts (ts.length : Int) (i : Int) out = some ((exT (ts.drop i) out).isSome, r) ∧ ∀ o, exT (ts.drop i) out = some o → r = o
  | 0, i, out, hi, ho, K, hK => by
    obtain ⟨q, rfl⟩ : ∃ q, K = q + 1 := ⟨K - 1, by omega⟩
    rw [List.drop_eq_nil_of_le (by omega), match_text_all.l0, if_neg (by omega)]
    exact ⟨out, rfl, fun o h => by injection h⟩
  | d + 1, i, out, hi, ho, K, hK => by
    obtain ⟨q, rfl⟩ : ∃ q, K = q + 1 := ⟨K - 1, by omega⟩
    have hd := List.drop_eq_getElem_cons (by omega : i < ts.length)
    obtain ⟨h1, h2, h3⟩ := rdT hd
    rw [hd]
    generalize ts[i] = t at h1
    have ht := token_all out t ho (k := q) (by omega)
    rw [match_text_all.l0, if_pos (by omega), if_pos (by omega), if_pos (by omega), h1]
    by_cases hok : okT out.length t = true
    · rw [if_pos hok] at ht
      rw [ht, Option.bind_some]
      dsimp only
      rw [if_pos rfl, w64 (by omega) (by omega), show (i : Int) + 1 = ((i + 1 : Nat) : Int) from by omega]
      have := all_ex ts hts d (i + 1) (outT out t) (by omega) (outT_length hok).1 q (by omega)
      rw [exT, if_pos hok]
      exact this
    · rw [if_neg hok] at ht
      obtain ⟨r, ht⟩ := ht
      rw [ht, Option.bind_some, exT, if_neg hok]
      dsimp only
      rw [if_neg (by decide)]
      exact ⟨r, rfl, fun o h => by injection h⟩
theorem may_ex (ts : List S72) (hts : ts.length ≤ 4611686018427387904) : ∀ (d i : Nat) (out : List Int), i + d = ts.length → out.length ≤ 8192 → ∀ K, 2 * d + 1 ≤ K → portageref1_TokensMay.l0 K ts (out.length : Int) (i : Int) = some (exT (ts.drop i) out).isSome
  | 0, i, out, hi, ho, K, hK => by
    obtain ⟨q, rfl⟩ : ∃ q, K = q + 1 := ⟨K - 1, by omega⟩
    rw [List.drop_eq_nil_of_le (by omega), portageref1_TokensMay.l0, if_neg (by omega)]; rfl
  | d + 1, i, out, hi, ho, K, hK => by
    obtain ⟨q, rfl⟩ : ∃ q, K = q + 1 + 1 := ⟨K - 2, by omega⟩
    have hd := List.drop_eq_getElem_cons (by omega : i < ts.length)
    obtain ⟨h1, h2, h3⟩ := rdT hd
    rw [hd]
    generalize ts[i] = t at h1
    obtain ⟨a, b, c⟩ := t
    have ih : okT out.length ⟨a, b, c⟩ = true → portageref1_TokensMay.l0 q ts ((outT out ⟨a, b, c⟩).length : Int) ((i + 1 : Nat) : Int) = some (exT (ts.drop (i + 1)) (outT out ⟨a, b, c⟩)).isSome := fun hok => may_ex ts hts d (i + 1) (outT out ⟨a, b, c⟩) (by omega) (outT_length hok).1 q (by omega)
    have hj1 : portageref1_TokensMay.j1 (q + 1) ts (out.length : Int) (i : Int) true = some false := by rw [portageref1_TokensMay.j1, if_pos rfl]
    have hj2 : ∀ a b c, portageref1_TokensMay.j2 (q + 1) ts (out.length : Int) (i : Int) true a b c = some false := fun a b c => by rw [portageref1_TokensMay.j2, if_pos rfl]
    rw [portageref1_TokensMay.l0, if_pos (by omega), if_pos (by omega), h1]
    dsimp only
    by_cases h0 : b = 0
    · have e : okT out.length ⟨a, b, c⟩ = decide (0 ≤ a ∧ a ≤ 255 ∧ c = 0 ∧ out.length < 8192) := by unfold okT; rw [if_pos h0]
      rw [if_pos h0, exT]
      by_cases g1 : a < 0
      · rw [if_pos g1, hj1, if_neg (by rw [e]; simp; omega)]; rfl
      by_cases g2 : a > 255
      · rw [if_neg g1, if_pos g2, hj1, if_neg (by rw [e]; simp; omega)]; rfl
      rw [if_neg g1, if_neg g2]
      by_cases g3 : c = 0
      · rw [show (c != 0) = false from by simp [g3], portageref1_TokensMay.j1, if_neg (by decide), w64 (by omega) (by omega)]
        by_cases g4 : (out.length : Int) + 1 > 8192
        · rw [if_pos g4, if_neg (by rw [e]; simp; omega)]; rfl
        · have hok : okT out.length ⟨a, b, c⟩ = true := by rw [e]; simp; omega
          have hlen := (outT_length hok).2
          rw [if_pos h0] at hlen
          rw [if_neg g4, if_pos hok, w64 (by omega) (by omega), ← hlen, show (i : Int) + 1 = ((i + 1 : Nat) : Int) from by omega]
          exact ih hok
      · rw [show (c != 0) = true from by simp [g3], hj1, if_neg (by rw [e]; simp; omega)]; rfl
    · have e : okT out.length ⟨a, b, c⟩ = decide (a = 0 ∧ 3 ≤ b ∧ b ≤ 258 ∧ 1 ≤ c ∧ c ≤ (out.length : Int) ∧ c ≤ 32768 ∧ (out.length : Int) + b ≤ 8192) := by unfold okT; rw [if_neg h0]
      rw [if_neg h0, exT]
      by_cases g1 : b < 3
      · rw [if_pos g1, hj2, if_neg (by rw [e]; simp; omega)]; rfl
      by_cases g2 : b > 258
      · rw [if_neg g1, if_pos g2, hj2, if_neg (by rw [e]; simp; omega)]; rfl
      by_cases g3 : c < 1
      · rw [if_neg g1, if_neg g2, if_pos g3, hj2, if_neg (by rw [e]; simp; omega)]; rfl
      by_cases g4 : c > 32768
      · rw [if_neg g1, if_neg g2, if_neg g3, if_pos g4, hj2, if_neg (by rw [e]; simp; omega)]; rfl
      by_cases g5 : c > (out.length : Int)
      · rw [if_neg g1, if_neg g2, if_neg g3, if_neg g4, if_pos g5, hj2, if_neg (by rw [e]; simp; omega)]; rfl
      rw [if_neg g1, if_neg g2, if_neg g3, if_neg g4, if_neg g5]
      by_cases g6 : a = 0
      · rw [show (a != 0) = false from by simp [g6], portageref1_TokensMay.j2, if_neg (by decide), w64 (by omega) (by omega)]
        by_cases g7 : (out.length : Int) + b > 8192
        · rw [if_pos g7, if_neg (by rw [e]; simp; omega)]; rfl
        · have hok : okT out.length ⟨a, b, c⟩ = true := by rw [e]; simp; omega
          have hlen := (outT_length hok).2
          rw [if_neg h0] at hlen
          rw [if_neg g7, if_pos hok, w64 (by omega) (by omega), ← hlen, show (i : Int) + 1 = ((i + 1 : Nat) : Int) from by omega]
          exact ih hok
      · rw [show (a != 0) = true from by simp [g6], hj2, if_neg (by rw [e]; simp; omega)]; rfl
theorem refcp_l1 (ts : List S72) (i : Nat) (D L : Nat) (hi : i < ts.length) (h1 : (rd_T72 ts (i : Int)).f1 = (L : Int)) (h2 : (rd_T72 ts (i : Int)).f2 = (D : Int)) (hts : ts.length ≤ 4611686018427387904) (hL : L ≤ 8192) (res : Option (ByteArray × Int)) :
    ∀ (d j : Nat) (out : List Int), j + d = L → (0 < d → 1 ≤ D ∧ D ≤ out.length) → out.length + d ≤ 8192 → ∀ K, (∀ K', K ≤ K' → portageref1_Expand.l0 K' ts (cp D d out) ((i + 1 : Nat) : Int) = res) → ∀ K', K + d + 1 ≤ K' → portageref1_Expand.l1 K' ts out (i : Int) (j : Int) = res
  | 0, j, out, hj, ho, hl, K, hK, K', hK' => by
    obtain ⟨q, rfl⟩ : ∃ q, K' = q + 1 := ⟨K' - 1, by omega⟩
    rw [portageref1_Expand.l1, if_pos (by omega), if_pos (by omega), h1, if_neg (by omega), w64 (by omega) (by omega), show (i : Int) + 1 = ((i + 1 : Nat) : Int) from by omega]
    exact hK q (by omega)
  | d + 1, j, out, hj, ho, hl, K, hK, K', hK' => by
    obtain ⟨q, rfl⟩ : ∃ q, K' = q + 1 := ⟨K' - 1, by omega⟩
    obtain ⟨o1, o2⟩ := ho (by omega)
    rw [portageref1_Expand.l1, if_pos (by omega), if_pos (by omega), h1, h2, if_pos (by omega), w64 (by omega) (by omega), w64 (by omega) (by omega), if_pos (by omega), if_pos (by omega), if_pos (by omega), show (out.length : Int) - (D : Int) = ((out.length - D : Nat) : Int) from by omega, show (j : Int) + 1 = ((j + 1 : Nat) : Int) from by omega]
    exact refcp_l1 ts i D L hi h1 h2 hts hL res d (j + 1) _ (by omega) (fun _ => ⟨o1, by simp; omega⟩) (by simp; omega) K (fun K' h => hK K' h) q (by omega)
theorem refex_l0 (ts : List S72) (hts : ts.length ≤ 4611686018427387904) : ∀ (d i : Nat) (out o : List Int), i + d = ts.length → out.length ≤ 8192 → exT (ts.drop i) out = some o → ∀ K, 300 * d + 1 ≤ K → portageref1_Expand.l0 K ts out (i : Int) = some (strOfNums o, 0)
  | 0, i, out, o, hi, ho, he, K, hK => by
    obtain ⟨q, rfl⟩ : ∃ q, K = q + 1 := ⟨K - 1, by omega⟩
    rw [List.drop_eq_nil_of_le (by omega)] at he
    injection he with he
    rw [portageref1_Expand.l0, if_neg (by omega), he]
  | d + 1, i, out, o, hi, ho, he, K, hK => by
    obtain ⟨q, rfl⟩ : ∃ q, K = q + 1 + 1 := ⟨K - 2, by omega⟩
    have hd := List.drop_eq_getElem_cons (by omega : i < ts.length)
    obtain ⟨h1, h2, h3⟩ := rdT hd
    rw [hd] at he
    generalize ts[i] = t at h1 he
    rw [exT] at he
    by_cases hok : okT out.length t = true
    · rw [if_pos hok] at he
      have hlen := outT_length hok
      have ih : ∀ K, 300 * d + 1 ≤ K → portageref1_Expand.l0 K ts (outT out t) ((i + 1 : Nat) : Int) = some (strOfNums o, 0) := fun K h => refex_l0 ts hts d (i + 1) (outT out t) o (by omega) hlen.1 he K h
      rw [portageref1_Expand.l0, if_pos (by omega), if_pos (by omega), h1]
      have ht := h1
      obtain ⟨a, b, c⟩ := t
      by_cases h0 : b = 0
      · have e : okT out.length ⟨a, b, c⟩ = decide (0 ≤ a ∧ a ≤ 255 ∧ c = 0 ∧ out.length < 8192) := by unfold okT; rw [if_pos h0]
        rw [e] at hok
        simp only [decide_eq_true_eq] at hok
        have ho' : outT out ⟨a, b, c⟩ = out ++ [a] := by unfold outT; rw [if_pos h0]
        rw [ho'] at ih
        rw [if_pos h0, if_pos (by omega), portageref1_Expand.j1, show a % 256 = a from by omega]
        exact refcp_l1 ts i 0 0 h3 (by rw [h1]; exact h0) (by rw [h1]; exact hok.2.2.1) hts (by omega) _ 0 0 (out ++ [a]) rfl (fun h => absurd h (by omega)) (by simp; omega) (300 * d + 1) (fun K' h => ih K' h) q (by omega)
      · have e : okT out.length ⟨a, b, c⟩ = decide (a = 0 ∧ 3 ≤ b ∧ b ≤ 258 ∧ 1 ≤ c ∧ c ≤ (out.length : Int) ∧ c ≤ 32768 ∧ (out.length : Int) + b ≤ 8192) := by unfold okT; rw [if_neg h0]
        rw [e] at hok
        simp only [decide_eq_true_eq] at hok
        have ho' : outT out ⟨a, b, c⟩ = cp c.toNat b.toNat out := by unfold outT; rw [if_neg h0]
        rw [ho'] at ih
        rw [if_neg h0, portageref1_Expand.j1]
        exact refcp_l1 ts i c.toNat b.toNat h3 (by rw [h1]; show b = _; omega) (by rw [h1]; show c = _; omega) hts (by omega) _ b.toNat 0 out (by omega) (fun _ => ⟨by omega, by omega⟩) (by omega) (300 * d + 1) (fun K' h => ih K' h) q (by omega)
    · rw [if_neg hok] at he; exact absurd he (by simp)
theorem refexpand_k (ts : List S72) (hts : ts.length ≤ 5864062014805) {k : Nat} (hk : 300 * ts.length + 400 ≤ k) : ∃ s e m, match_Expand.f k ts = some (s, e) ∧ portageref1_Expand.f k ts = some (s, e) ∧ match_May.f k ts = some m ∧ portageref1_TokensMay.f k ts = some m := by
  obtain ⟨r, ha, hr⟩ := all_ex ts (by omega) ts.length 0 [] (by omega) (by simp) k (by omega)
  have hm := may_ex ts (by omega) ts.length 0 [] (by omega) (by simp) k (by omega)
  rw [List.drop_zero] at ha hr hm
  have ha : match_text_all.f k [] ts = some ((exT ts []).isSome, r) := ha
  have hm : portageref1_TokensMay.f k ts = some (exT ts []).isSome := hm
  unfold match_Expand.f portageref1_Expand.f match_May.f
  rw [ha, hm, Option.bind_some, Option.bind_some, Option.bind_some]
  dsimp only
  cases he : exT ts [] with
  | none => exact ⟨_, _, _, rfl, rfl, rfl, rfl⟩
  | some o =>
    have hr := hr o he
    have := refex_l0 ts (by omega) ts.length 0 [] o (by omega) (by simp) he k (by omega)
    refine ⟨strOfNums o, 0, true, by rw [hr]; rfl, this, rfl, rfl⟩
end Go.Proofs.Ytnjbbfcknijcnaa.N
