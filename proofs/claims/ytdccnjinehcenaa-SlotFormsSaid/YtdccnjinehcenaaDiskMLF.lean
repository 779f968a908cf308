/- Chapter 17: which disks the program lets be. -/
import Derived.Test.YtdccnjinehcenaaDiskPLF
import Derived.Test.YtdccnjinehcenaaLF5
namespace Go.Proofs.Ytdccnjinehcenaa.LF
set_option linter.unusedVariables false
set_option linter.unusedSimpArgs false
open Go.RowKit Go.Proofs.YtdccnjinehcenaaW.PrintWords Go.Proofs.YtdccnjinehcenaaW.PrintLast Go.Proofs.YtdccnjinehcenaaW.PrintMore
theorem odd_l0 (l : List ByteArray) (hl : l.length ≤ 9000000000000000000) : ∀ (d i : Nat), i + d = l.length → ∀ K, d + 1 ≤ K → ∃ r, slices_IndexFunc_string_string_F39.l0 K l (l.length : Int) (i : Int) = some r ∧ decide (r ≥ 0) = (l.drop i).any odd
  | 0, i, hi, K, hK => by
    obtain ⟨m, rfl⟩ : ∃ m, K = m + 1 := ⟨K - 1, by omega⟩
    refine ⟨-1, ?_, ?_⟩
    · rw [slices_IndexFunc_string_string_F39.l0, if_neg (by omega)]
    · rw [List.drop_eq_nil_of_le (by omega)]; rfl
  | d + 1, i, hi, K, hK => by
    obtain ⟨m, rfl⟩ : ∃ m, K = m + 1 := ⟨K - 1, by omega⟩
    have hw : wrap64 ((i : Int) + 1) = ((i + 1 : Nat) : Int) := by unfold wrap64; omega
    obtain ⟨r, hr, h2⟩ := odd_l0 l hl d (i + 1) (by omega) m (by omega)
    have hlt : i < l.length := by omega
    have e1 : disk_May_1.f (rdOf ByteArray.empty l (i : Int)) = some (odd l[i]) := by rw [rdOf_nat _ _ _ hlt]; rfl
    rw [List.drop_eq_getElem_cons hlt, List.any_cons]
    by_cases h : odd l[i] = true
    · refine ⟨(i : Int), ?_, ?_⟩
      · rw [slices_IndexFunc_string_string_F39.l0, if_pos (by omega), if_pos (by omega), if_pos (by omega), e1, Option.bind_some, if_pos h]
      · rw [h, decide_eq_true (by omega)]; rfl
    · refine ⟨r, ?_, ?_⟩
      · rw [slices_IndexFunc_string_string_F39.l0, if_pos (by omega), if_pos (by omega), if_pos (by omega), e1, Option.bind_some, if_neg h, hw, hr]
      · rw [h2, Bool.eq_false_iff.mpr h]; rfl
theorem may_eq (l : List ByteArray) (hl : l.length ≤ 9000000000000000000) (K : Nat) (hK : l.length + 1 ≤ K) : disk_May.f K l = some (mayB l) := by
  unfold disk_May.f mayB
  by_cases h : l.length = 130
  · rw [if_pos (by omega), if_pos h]
    unfold slices_ContainsFunc_string_string_F39.f slices_IndexFunc_string_string_F39.f
    obtain ⟨r, hr, h2⟩ := odd_l0 l hl l.length 0 (by omega) K hK
    rw [show ((0 : Nat) : Int) = 0 from rfl] at hr
    rw [hr, Option.bind_some, Option.bind_some, h2, List.drop_zero]
  · rw [if_neg (by omega), if_neg h]
end Go.Proofs.Ytdccnjinehcenaa.LF
