import Derived.Test.YtbifignggnfodaaLimLLM
import Derived.Test.YtbifignggnfodaaLimALM
import Derived.Test.YtbifignggnfodaaLM6
namespace Go.Proofs.Ytbifignggnfodaa.Pure
set_option linter.unusedVariables false
set_option linter.unusedSimpArgs false
open Go.RowKit Go.Proofs.Ytbifignggnfodaa.LM Go.Proofs.YtbifignggnfodaaW.PrintWords Go.Proofs.YtbifignggnfodaaW.PrintLast Go.Proofs.YtbifignggnfodaaW.PrintMore
namespace LF
theorem loop (l ls : List Int) (m : Int) (hm : m ≤ 15) (G : HeapM.Good l m ls) (hl : l.length ≤ 288) (tu tr : Nat) (ht : (tu = 0 ∧ tr = 0) ∨ (2 ≤ tu ∧ tr = 32768)) : ∀ (d i K A B : Nat), i + d = ls.length → 2 * d + 1 ≤ K → A + HeapM.room (ls.drop i) = tr → B + HeapM.used (ls.drop i) = tu → tu ≤ 288 → portagelaw4_LimitFull.l0 K l m ls (A : Int) (B : Int) (i : Int) = some true
  | 0, i, K, A, B, hi, hK, hA, hB, h288 => by
    obtain ⟨k, rfl⟩ : ∃ k, K = k + 1 := ⟨K - 1, by omega⟩
    rw [List.drop_eq_nil_of_le (by omega)] at hA hB
    have hA : A = tr := hA
    have hB : B = tu := hB
    subst hA hB
    rw [portagelaw4_LimitFull.l0, if_neg (by omega)]
    rcases ht with ⟨h1, h2⟩ | ⟨h1, h2⟩
    · rw [if_pos (by omega), if_pos (by omega)]
    · rw [if_neg (by omega), if_pos (by omega), h2]
      rfl
  | d + 1, i, K, A, B, hi, hK, hA, hB, h288 => by
    obtain ⟨k, rfl⟩ : ∃ k, K = k + 2 := ⟨K - 2, by omega⟩
    have hlt : i < ls.length := by omega
    have hr := lim_rd ls i
    have h0 := G.lo i
    have h1 := G.hi i
    have h2 := G.pos i
    rw [← hr] at h0 h1 h2
    rw [← lim_rd l i] at h2
    have hdr := lim_drop ls i hlt
    rw [hdr] at hA hB
    rw [lim_used] at hB
    rw [HeapM.room] at hA
    have hw : wrap64 ((i : Int) + 1) = ((i + 1 : Nat) : Int) := by have := G.len; unfold wrap64; omega
    obtain ⟨x, hx⟩ : ∃ x, rd ls (i : Int) = x := ⟨_, rfl⟩
    rw [hx] at h0 h1 h2 hA hB
    rw [portagelaw4_LimitFull.l0, if_pos (by omega), if_pos (by omega), hx, if_neg (by omega), if_neg (by omega), if_neg (by omega), if_pos (by have := G.len; omega)]
    have hj : portagelaw4_LimitFull.j1 (k + 1) l m ls (A : Int) (B : Int) (i : Int) false = some true := by
      rw [portagelaw4_LimitFull.j1, if_neg (by decide), if_pos (by omega), if_pos (by omega), hx, hw]
      by_cases hp : 0 < x
      · rw [if_pos hp] at hA hB
        obtain ⟨s1, s2⟩ := lim_shl x (by omega) (by omega)
        have hr2 : tr ≤ 32768 := by omega
        have e1 : wrap64 ((A : Int) + ((2 ^ (15 - x.toNat) : Nat) : Int)) = ((A + 2 ^ (15 - x.toNat) : Nat) : Int) := by
          generalize 2 ^ (15 - x.toNat) = z at hA ⊢
          unfold wrap64
          omega
        have e2 : wrap64 ((B : Int) + 1) = ((B + 1 : Nat) : Int) := by unfold wrap64; omega
        rw [if_pos (show x > 0 from hp), if_pos s1, s2, e1, e2]
        exact loop l ls m hm G hl tu tr ht d (i + 1) k _ _ (by omega) (by omega) (by omega) (by omega) h288
      · rw [if_neg hp] at hA hB
        rw [if_neg (show ¬ x > 0 from hp)]
        exact loop l ls m hm G hl tu tr ht d (i + 1) k _ _ (by omega) (by omega) (by omega) (by omega) h288
    by_cases hc : rd l (i : Int) > 0
    · have := h2 hc
      rw [if_pos hc, show (x == 0) = false from beq_eq_false_iff_ne.mpr (by omega)]
      exact hj
    · rw [if_neg hc]
      exact hj
end LF
open LF in
theorem LimitFull : portagelaw4_LimitFull.Pure := by
  intro l0 a1 _ _ _ _
  refine ⟨1000, ?_⟩
  unfold portagelaw4_LimitFull.f
  rw [limAwake (by decide), Option.bind_some, if_pos rfl]
  cases hm : limitMay l0 a1 with
  | false =>
    rw [lim_no l0 a1 hm, Option.bind_some]
    rfl
  | true =>
    have G := lim_good hm
    obtain ⟨h1, h2, h3, h4, h5, h6⟩ := (limitMay_is l0 a1).1 hm
    rw [lim_yes l0 a1 hm, Option.bind_some]
    show (if (0 : Int) = 0 then (if ((HeapM.lengths l0 a1).length : Int) = (l0.length : Int) then (portagelaw4_LimitFull.l0 1000 l0 a1 (HeapM.lengths l0 a1) 0 0 0) else none) else some (((HeapM.lengths l0 a1).length : Int) == 0)) = _
    rw [if_pos rfl, if_pos (by rw [G.len])]
    refine loop l0 _ a1 h5 G h2 (HeapM.used (HeapM.lengths l0 a1)) (HeapM.room (HeapM.lengths l0 a1)) ?_ (HeapM.lengths l0 a1).length 0 1000 0 0 (by omega) (by have := G.len; omega) (by rw [List.drop_zero]; omega) (by rw [List.drop_zero]; omega) (by have := HeapM.used_le (HeapM.lengths l0 a1); have := G.len; omega)
    rcases Nat.eq_zero_or_pos (HeapM.used l0) with h | h
    · exact .inl (G.none_ h)
    · exact .inr (G.full h)
end Go.Proofs.Ytbifignggnfodaa.Pure
