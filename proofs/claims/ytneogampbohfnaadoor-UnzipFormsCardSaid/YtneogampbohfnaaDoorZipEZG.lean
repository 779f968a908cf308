/- Folders that are the same. -/
import Derived.Test.YtneogampbohfnaaDoorSameJZG
import Derived.Test.YtneogampbohfnaaDoorZG8
import Derived.Test.YtneogampbohfnaaDoorZipU
namespace Go.Proofs.YtneogampbohfnaaDoor.ZG
set_option linter.unusedVariables false
set_option linter.unusedSimpArgs false
open Go.RowKit Go.Proofs.YtneogampbohfnaaDoorW.PrintWords Go.Proofs.YtneogampbohfnaaDoorW.PrintLast Go.Proofs.YtneogampbohfnaaDoorW.PrintMore
open Go.Proofs.YtneogampbohfnaaDoor.ZB (S39 z39 k39 rd_T39)
theorem bs_eq {a b : ByteArray} (h : a.toList = b.toList) : a = b := Go.WideShapes.bytes_inj (by rw [ByteArray.toList_eq, ByteArray.toList_eq] at h; exact h)
theorem same_e (x y : S39) (hx : x.f2.length ≤ 4611686018427387904) {k : Nat} (hk : x.f2.length + 1 ≤ k) :
    ∃ b, pl_SameEntry.f k x.f0 x.f1 x.f2 x.f3 x.f4 x.f5 x.f6 x.f7 x.f8 y.f0 y.f1 y.f2 y.f3 y.f4 y.f5 y.f6 y.f7 y.f8 = some b ∧ (b = true ↔ x = y) := by
  unfold pl_SameEntry.f
  rw [same_k x.f2 y.f2 hx hk]
  obtain ⟨x0, x1, x2, x3, x4, x5, x6, x7, x8⟩ := x
  obtain ⟨y0, y1, y2, y3, y4, y5, y6, y7, y8⟩ := y
  dsimp only
  by_cases h0 : x0.toList = y0.toList
  · rw [if_pos h0]
    by_cases h1 : (x1 == y1) = true
    · rw [if_pos h1, Option.bind_some]
      by_cases h2 : x2 = y2
      · rw [if_pos (decide_eq_true h2)]
        by_cases h3 : x3 = y3
        · rw [if_pos h3]
          by_cases h4 : x4 = y4
          · rw [if_pos h4]
            by_cases h5 : x5 = y5
            · rw [if_pos h5]
              by_cases h6 : x6.toList = y6.toList
              · rw [if_pos h6]
                by_cases h7 : x7 = y7
                · rw [if_pos h7]
                  refine ⟨_, rfl, ?_⟩
                  rw [beq_iff_eq]
                  constructor
                  · intro h8
                    rw [bs_eq h0, eq_of_beq h1, h2, h3, h4, h5, bs_eq h6, h7, h8]
                  · intro e; injection e
                · rw [if_neg h7]; exact ⟨false, rfl, ⟨fun h => absurd h (by decide), fun e => absurd (by injection e) h7⟩⟩
              · rw [if_neg h6]; exact ⟨false, rfl, ⟨fun h => absurd h (by decide), fun e => absurd (by injection e with _ _ _ _ _ _ e6; rw [e6]) h6⟩⟩
            · rw [if_neg h5]; exact ⟨false, rfl, ⟨fun h => absurd h (by decide), fun e => absurd (by injection e) h5⟩⟩
          · rw [if_neg h4]; exact ⟨false, rfl, ⟨fun h => absurd h (by decide), fun e => absurd (by injection e) h4⟩⟩
        · rw [if_neg h3]; exact ⟨false, rfl, ⟨fun h => absurd h (by decide), fun e => absurd (by injection e) h3⟩⟩
      · rw [if_neg (by simpa using h2)]; exact ⟨false, rfl, ⟨fun h => absurd h (by decide), fun e => absurd (by injection e) h2⟩⟩
    · rw [if_neg h1]; exact ⟨false, rfl, ⟨fun h => absurd h (by decide), fun e => absurd (by injection e with _ e1; rw [e1]; exact beq_self_eq_true _) h1⟩⟩
  · rw [if_neg h0]; exact ⟨false, rfl, ⟨fun h => absurd h (by decide), fun e => absurd (by injection e with e0; rw [e0]) h0⟩⟩
theorem drop_T39 (l : List S39) (i : Nat) (h : i < l.length) : l.drop i = rd_T39 l (i : Int) :: l.drop (i + 1) := by
  rw [List.drop_eq_getElem_cons h]
  unfold rd_T39
  simp [List.getD_eq_getElem?_getD, List.getElem?_eq_getElem h]
theorem mem_T39 (l : List S39) (i : Nat) (h : i < l.length) : rd_T39 l (i : Int) ∈ l := by
  unfold rd_T39
  rw [Int.toNat_natCast, List.getD_eq_getElem?_getD, List.getElem?_eq_getElem h]
  exact List.getElem_mem h
theorem same_es_l0 (l m : List S39) (L : Nat) (hlm : l.length = m.length) (hl : l.length ≤ 4611686018427387904) (hL : L ≤ 4611686018427387904) (hx : ∀ x ∈ l, x.f2.length ≤ L) : ∀ (d i : Nat), i + d = l.length → ∀ K, L + d + 2 ≤ K →
    ∃ b, pl_SameEntries.l0 K l m (i : Int) = some b ∧ (b = true ↔ l.drop i = m.drop i)
  | 0, i, hi, K, hK => by
    obtain ⟨q, rfl⟩ : ∃ q, K = q + 1 := ⟨K - 1, by omega⟩
    rw [pl_SameEntries.l0, if_neg (by omega), List.drop_eq_nil_of_le (show l.length ≤ i by omega), List.drop_eq_nil_of_le (show m.length ≤ i by omega)]
    exact ⟨true, rfl, by simp⟩
  | d + 1, i, hi, K, hK => by
    obtain ⟨q, rfl⟩ : ∃ q, K = q + 1 := ⟨K - 1, by omega⟩
    have hb := hx _ (mem_T39 l i (by omega))
    obtain ⟨b, h1, h2⟩ := same_e (rd_T39 l (i : Int)) (rd_T39 m (i : Int)) (by omega) (k := q) (by omega)
    rw [pl_SameEntries.l0, if_pos (by omega), if_pos (by omega), if_pos (by omega), h1, Option.bind_some, drop_T39 l i (by omega), drop_T39 m i (by omega), show wrap64 ((i : Int) + 1) = ((i + 1 : Nat) : Int) from by unfold wrap64; omega]
    by_cases hb : b = true
    · rw [if_pos hb]
      obtain ⟨c, h3, h4⟩ := same_es_l0 l m L hlm hl hL hx d (i + 1) (by omega) q (by omega)
      refine ⟨c, h3, h4.trans ?_⟩
      rw [h2.1 hb]
      simp
    · rw [if_neg hb]
      refine ⟨false, rfl, ⟨fun h => absurd h (by decide), fun e => ?_⟩⟩
      injection e with e1
      exact absurd (h2.2 e1) hb
/-- Are two folders the same? -/
theorem same_f (l m : List S39) (L : Nat) (hl : l.length ≤ 4611686018427387904) (hL : L ≤ 4611686018427387904) (hx : ∀ x ∈ l, x.f2.length ≤ L) {k : Nat} (hk : L + l.length + 2 ≤ k) : ∃ b, pl_SameFolder.f k l m = some b ∧ (b = true ↔ l = m) := by
  unfold pl_SameFolder.f pl_SameEntries.f
  by_cases h : l.length = m.length
  · rw [if_pos (by omega)]
    obtain ⟨b, h1, h2⟩ := same_es_l0 l m L h hl hL hx l.length 0 (by omega) k (by omega)
    have h1 : pl_SameEntries.l0 k l m 0 = some b := h1
    rw [h1, Option.bind_some]
    exact ⟨b, rfl, by simpa using h2⟩
  · rw [if_neg (by omega), Option.bind_some]
    exact ⟨false, rfl, ⟨fun h => absurd h (by decide), fun e => absurd (by rw [e]) h⟩⟩
/-- In a folder that may be written, all vectors are short. -/
theorem may_vec {l : List S39} (h : ZipW.mayL l = true) : ∀ x ∈ l, x.f2.length ≤ 4 := by
  intro x hx
  obtain ⟨i, hi, rfl⟩ := List.mem_iff_getElem.mp hx
  have hf := (ZipW.fit_of h i hi).head
  have e : rd_T39 l (i : Int) = l[i] := by
    unfold rd_T39
    rw [Int.toNat_natCast, List.getD_eq_getElem?_getD, List.getElem?_eq_getElem hi]
    rfl
  rw [e] at hf
  unfold Go.Proofs.YtneogampbohfnaaDoor.ZB.mayE Go.Proofs.YtneogampbohfnaaDoor.ZB.vok at hf
  simp only [Bool.and_eq_true, decide_eq_true_eq] at hf
  omega
end Go.Proofs.YtneogampbohfnaaDoor.ZG
