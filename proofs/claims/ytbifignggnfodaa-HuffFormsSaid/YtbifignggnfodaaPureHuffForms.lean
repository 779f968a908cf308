import Derived.Test.YtbifignggnfodaaHuffLHF
import Derived.Test.YtbifignggnfodaaHuffWHF
import Derived.Test.YtbifignggnfodaaHF5
import Derived.Test.YtbifignggnfodaaBits
namespace Go.Proofs.Ytbifignggnfodaa.Pure
set_option linter.unusedVariables false
set_option linter.unusedSimpArgs false
open Go.RowKit Go.Proofs.Ytbifignggnfodaa.HF Go.Proofs.YtbifignggnfodaaW.PrintWords Go.Proofs.YtbifignggnfodaaW.PrintLast Go.Proofs.YtbifignggnfodaaW.PrintMore
namespace HF
def bads (d : Int) : List (List Int) := [[], [-d], [15 + d], List.replicate (288 + d).toNat 0, [1, 1, 1], [1, 2, 2, 15], [1, 1, 15]]
def wants : List Int := [300, 300, 300, 300, 301, 301, 301]
theorem form_neg (d : Int) (h : 1 ≤ d) : huffMay [-d] = false := by
  have : decide (0 ≤ -d ∧ -d ≤ 15) = false := decide_eq_false (by omega)
  simp [huffMay, this]
  omega
theorem form_pos (d : Int) (h : 1 ≤ d) : huffMay [15 + d] = false := by
  have : decide (0 ≤ 15 + d ∧ 15 + d ≤ 15) = false := decide_eq_false (by omega)
  simp [huffMay, this]
  omega
theorem form_long (d : Int) (h : 1 ≤ d) : huffMay (List.replicate (288 + d).toNat 0) = false := by
  unfold huffMay
  rw [decide_eq_false (by rw [List.length_replicate]; omega)]
  rfl
theorem all_bad (d : Int) (h : 1 ≤ d) (i : Nat) (hi : i < 7) : huff_Codes.f (rd_L3 (bads d) (i : Int)) = some ([], rd wants (i : Int)) ∧ huff_Find.f (rd_L3 (bads d) (i : Int)) 1 0 = some (0, false, rd wants (i : Int)) ∧ huff_Check.f (rd_L3 (bads d) (i : Int)) = some (rd wants (i : Int)) := by
  match i, hi with
  | 0, _ => exact ⟨codes_form (l := []) rfl, find_form (l := []) rfl 1 0, check_form (l := []) rfl⟩
  | 1, _ => exact ⟨codes_form (form_neg d h), find_form (form_neg d h) 1 0, check_form (form_neg d h)⟩
  | 2, _ => exact ⟨codes_form (form_pos d h), find_form (form_pos d h) 1 0, check_form (form_pos d h)⟩
  | 3, _ => exact ⟨codes_form (form_long d h), find_form (form_long d h) 1 0, check_form (form_long d h)⟩
  | 4, _ => exact ⟨(show huff_Codes.f [1, 1, 1] = some ([], 301) by kernel_rfl), (show huff_Find.f [1, 1, 1] 1 0 = some (0, false, 301) by decide +kernel), (show huff_Check.f [1, 1, 1] = some 301 by decide +kernel)⟩
  | 5, _ => exact ⟨(show huff_Codes.f [1, 2, 2, 15] = some ([], 301) by kernel_rfl), (show huff_Find.f [1, 2, 2, 15] 1 0 = some (0, false, 301) by decide +kernel), (show huff_Check.f [1, 2, 2, 15] = some 301 by decide +kernel)⟩
  | 6, _ => exact ⟨(show huff_Codes.f [1, 1, 15] = some ([], 301) by kernel_rfl), (show huff_Find.f [1, 1, 15] 1 0 = some (0, false, 301) by decide +kernel), (show huff_Check.f [1, 1, 15] = some 301 by decide +kernel)⟩
theorem two_out (d : Int) (h : 1 ≤ d) (h2 : d ≤ 1024) : huff_Find.f [1, 1] 1 (1 + d) = some (0, false, 0) := by
  have hm : huffMay [1, 1] = true := by decide +kernel
  have hr : room [1, 1] 16 ≤ 32768 := by decide +kernel
  have := find_at hm hr 1 (by decide) (by decide) (1 + d) (by omega)
  rw [if_neg (by have h1 : HuffM.cd [1, 1] 1 = 0 := by decide +kernel
                 have h2 : HuffM.cnt [1, 1] 1 = 2 := by decide +kernel
                 rw [h1, h2]; omega)] at this
  exact this
theorem two_zero : huff_Find.f [1, 1] 0 0 = some (0, false, 0) := by decide +kernel
theorem zeros : huff_Codes.f [0, 0] = some ([⟨0, 0⟩, ⟨0, 0⟩], 0) := by kernel_rfl
theorem zeros_check : huff_Check.f [0, 0] = some 302 := by decide +kernel
theorem same_zeros : portagelaw0_SameCodes.f 60 [(⟨0, 0⟩ : S43), ⟨0, 0⟩] [⟨0, 0⟩, ⟨0, 0⟩] = some true := by decide +kernel
end HF
open HF in
theorem HuffForms : portagelaw3_HuffForms.Pure := by
  intro a0 a1 _ _
  refine ⟨60, ?_⟩
  obtain ⟨d, hd, d1, d2⟩ : ∃ d : Int, wrap64 (1 + Go.bits .and .i64 a1 1023) = d ∧ 1 ≤ d ∧ d ≤ 1024 := ⟨1 + a1 % 1024, by rw [Bits.and_10, w64' (by omega) (by omega)], by omega, by omega⟩
  obtain ⟨i, hi, e⟩ := u64_tmod a0 7 (by decide)
  have e : Int.tmod (IntKind.u64.wrap a0) 7 = (i : Int) := e
  have ei : wrap64 (i : Int) = (i : Int) := w64' (by omega) (by omega)
  have e1 : wrap64 (288 + d) = 288 + d := w64' (by omega) (by omega)
  have e2 : wrap64 (-d) = -d := w64' (by omega) (by omega)
  have e3 : wrap64 (15 + d) = 15 + d := w64' (by omega) (by omega)
  have e4 : wrap64 (1 + d) = 1 + d := w64' (by omega) (by omega)
  obtain ⟨g1, g2, g3⟩ := all_bad d d1 i hi
  unfold portagelaw3_HuffForms.f
  rw [huffAwake (by decide), Option.bind_some, if_pos rfl, hd, e, ei, e1, e2, e3, e4, if_pos (by omega), if_pos (by omega)]
  show (if 0 ≤ (i : Int) then (if (i : Int) < ((bads d).length : Int) then ((huff_Codes.f (rd_L3 (bads d) (i : Int))).bind _) else none) else none) = some true
  rw [if_pos (by omega), if_pos (by show (i : Int) < 7; omega), g1, Option.bind_some]
  show ((huff_Find.f (rd_L3 (bads d) (i : Int)) 1 0).bind _) = some true
  rw [g2, Option.bind_some, two_zero, Option.bind_some, two_out d d1 d2, Option.bind_some, zeros, Option.bind_some]
  show ((huff_Check.f (rd_L3 (bads d) (i : Int))).bind _) = some true
  rw [g3]
  have e5 : (i : Int) < ((wants.length : Nat) : Int) := by show (i : Int) < 7; omega
  unfold wants at e5 ⊢
  simp only [num1, Option.bind_some, same_zeros, zeros_check, if_true, Bool.false_eq_true, if_false]
  rw [if_pos e5]
  rfl
end Go.Proofs.Ytbifignggnfodaa.Pure
