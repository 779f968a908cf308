/- Chapter 10 over plain lists of bytes: which texts are names. -/
import Derived.Test.YtdccnjinehcenaaDoorN1
import Derived.Test.YtdccnjinehcenaaDoorN2
namespace Go.Proofs.YtdccnjinehcenaaDoor.N
set_option linter.unusedVariables false
set_option linter.unusedSimpArgs false
open Go.RowKit Go.Proofs.YtdccnjinehcenaaDoorW.PrintWords Go.Proofs.YtdccnjinehcenaaDoorW.PrintLast Go.Proofs.YtdccnjinehcenaaDoorW.PrintMore
def ofs : List UInt8 := [97, 98, 99, 100, 101, 102, 103, 104, 105, 106, 107, 108, 109, 110, 111, 112, 113, 114, 115, 116, 117, 118, 119, 120, 121, 122, 48, 49, 50, 51, 52, 53, 54, 55, 56, 57, 46, 45, 95]
/-- Is a list of bytes a name? -/
def nm (l : List UInt8) : Bool := decide (1 ≤ l.length) && (decide (l.length ≤ 8) && (l.all (ofs.contains ·) && (decide (l ≠ [46]) && decide (l ≠ [46, 46]))))
theorem dropWhile_nil {α : Type} (p : α → Bool) : ∀ l : List α, (l.dropWhile p = [] ↔ l.all p = true)
  | [] => by simp
  | a :: l => by
    rw [List.dropWhile_cons, List.all_cons]
    cases h : p a with
    | true => simpa using dropWhile_nil p l
    | false => simp
theorem dropWhile_all {α : Type} (p : α → Bool) : ∀ l : List α, (l.dropWhile p).all p = l.all p
  | [] => rfl
  | a :: l => by
    rw [List.dropWhile_cons, List.all_cons]
    cases h : p a with
    | true => simpa using dropWhile_all p l
    | false => simp [h]
theorem trim_nil (l cs : List UInt8) : Lib.trimS l cs = [] ↔ l.all (cs.contains ·) = true := by
  unfold Lib.trimS Lib.trimLeftS Lib.trimRightS
  rw [dropWhile_nil, List.all_reverse, dropWhile_all, List.all_reverse]
theorem size_list (s : ByteArray) : s.data.toList.length = s.size := by rw [Array.length_toList]; rfl
theorem may_eq (s : ByteArray) (h : s.size ≤ 9223372036854775807) : name_May.f s = some (nm s.data.toList) := by
  unfold name_May.f
  have hl := size_list s
  by_cases h1 : (s.size : Int) ≥ 1
  · rw [if_pos h1]
    by_cases h2 : (s.size : Int) ≤ 8
    · rw [if_pos h2]
      unfold strings_Trim.f
      rw [if_pos h, if_pos (by decide), if_pos (by decide +kernel), Option.bind_some]
      rw [Lib.toList_data, Lib.toList_data]
      show (if Lib.trimS s.data.toList ofs = [] then _ else _) = _
      have d1 : decide (1 ≤ s.data.toList.length) = true := decide_eq_true (by omega)
      have d2 : decide (s.data.toList.length ≤ 8) = true := decide_eq_true (by omega)
      unfold nm
      rw [d1, d2, Bool.true_and, Bool.true_and]
      by_cases h3 : Lib.trimS s.data.toList ofs = []
      · rw [if_pos h3, (trim_nil _ _).mp h3, Bool.true_and]
        by_cases h4 : s.data.toList = [46]
        · rw [if_pos h4, decide_eq_false (p := s.data.toList ≠ [46]) (by simpa using h4)]
          rfl
        · rw [if_neg h4, decide_eq_true (p := s.data.toList ≠ [46]) h4, Bool.true_and]
          by_cases h5 : s.data.toList = [46, 46]
          · rw [h5]; rfl
          · rw [decide_eq_true (p := s.data.toList ≠ [46, 46]) h5]
            have : (s.data.toList != [46, 46]) = true := by rw [bne_iff_ne]; exact h5
            rw [this]
      · rw [if_neg h3]
        have h6 : s.data.toList.all (ofs.contains ·) = false := by
          rw [Bool.eq_false_iff]
          exact fun h => h3 ((trim_nil _ _).mpr h)
        rw [h6, Bool.false_and]
    · rw [if_neg h2]
      have d2 : decide (s.data.toList.length ≤ 8) = false := decide_eq_false (by omega)
      unfold nm
      rw [d2, Bool.false_and, Bool.and_false]
  · rw [if_neg h1]
    have d1 : decide (1 ≤ s.data.toList.length) = false := decide_eq_false (by omega)
    unfold nm
    rw [d1, Bool.false_and]
theorem may_lit (l : List UInt8) (h : l.length ≤ 1000) : name_May.f (⟨l.toArray⟩ : ByteArray) = some (nm l) :=
  may_eq ⟨l.toArray⟩ (by show l.toArray.size ≤ _; simp only [List.size_toArray]; omega)
end Go.Proofs.YtdccnjinehcenaaDoor.N
