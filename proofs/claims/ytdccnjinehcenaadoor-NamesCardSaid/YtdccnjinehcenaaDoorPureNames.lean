/- The plain law of portagelaw10.Names: the program's names are the document's. -/
import Derived.Test.YtdccnjinehcenaaDoorNameLN
import Derived.Test.YtdccnjinehcenaaDoorNameAN
import Derived.Test.YtdccnjinehcenaaDoorN3
import Derived.Test.YtdccnjinehcenaaDoorN2
namespace Go.Proofs.YtdccnjinehcenaaDoor.Pure
set_option linter.unusedVariables false
set_option linter.unusedSimpArgs false
open Go.RowKit Go.Proofs.YtdccnjinehcenaaDoor.N Go.Proofs.YtdccnjinehcenaaDoorW.PrintWords Go.Proofs.YtdccnjinehcenaaDoorW.PrintLast Go.Proofs.YtdccnjinehcenaaDoorW.PrintMore
/-- One byte of a name, as the document asks. -/
def okr (c : Int) : Bool := if c < 97 then (if c < 48 then (c == 46 || c == 45 || c == 95) else if c > 57 then (c == 46 || c == 45 || c == 95) else true) else if c > 122 then (if c < 48 then (c == 46 || c == 45 || c == 95) else if c > 57 then (c == 46 || c == 45 || c == 95) else true) else true
theorem okr_at : ∀ n : Fin 256, ofs.contains (UInt8.ofNat n.val) = okr (n.val : Int) := by decide +kernel
theorem okr_eq (b : UInt8) : ofs.contains b = okr (b.toNat : Int) := by
  have h := okr_at ⟨b.toNat, by have := UInt8.toNat_lt b; omega⟩
  have e : UInt8.ofNat b.toNat = b := by simp
  rw [show (UInt8.ofNat (⟨b.toNat, by have := UInt8.toNat_lt b; omega⟩ : Fin 256).val) = b from e] at h
  exact h
theorem bt_at (s : ByteArray) (i : Nat) (h : i < s.size) : ∃ b, s.data.toList[i]? = some b ∧ bt s (i : Int) = (b.toNat : Int) := by
  refine ⟨s[i], ?_, ?_⟩
  · rw [Array.getElem?_toList, Array.getElem?_eq_getElem (by exact h)]; rfl
  · unfold bt
    rw [dif_pos (by rw [Int.toNat_natCast]; exact h)]
    rfl
theorem step_round (c : Int) (A : Option Bool) : (if c < 97 then (if c < 48 then (if c = 46 then A else (if c = 45 then A else (if c = 95 then A else (some false)))) else (if c > 57 then (if c = 46 then A else (if c = 45 then A else (if c = 95 then A else (some false)))) else A)) else (if c > 122 then (if c < 48 then (if c = 46 then A else (if c = 45 then A else (if c = 95 then A else (some false)))) else (if c > 57 then (if c = 46 then A else (if c = 45 then A else (if c = 95 then A else (some false)))) else A)) else A)) = if okr c = true then A else some false := by
  unfold okr
  (repeat' split) <;> simp_all <;> omega
theorem ref_loop (s : ByteArray) (hs : s.size ≤ 8) : ∀ (d i : Nat), i + d = s.size → ∀ K, d + 1 ≤ K → portageref10_NameMay.l0 K s (i : Int) = some ((s.data.toList.drop i).all (ofs.contains ·))
  | 0, i, hi, K, hK => by
    obtain ⟨m, rfl⟩ : ∃ m, K = m + 1 := ⟨K - 1, by omega⟩
    have hl := size_list s
    rw [portageref10_NameMay.l0, if_neg (by omega), List.drop_eq_nil_of_le (by omega)]
    rfl
  | d + 1, i, hi, K, hK => by
    obtain ⟨m, rfl⟩ : ∃ m, K = m + 1 := ⟨K - 1, by omega⟩
    have hl := size_list s
    obtain ⟨b, hb, hv⟩ := bt_at s i (by omega)
    have ih := ref_loop s hs d (i + 1) (by omega) m (by omega)
    have hw : wrap64 ((i : Int) + 1) = ((i + 1 : Nat) : Int) := by unfold wrap64; omega
    rw [portageref10_NameMay.l0, if_pos (by omega), if_pos (by omega), hw, ih, hv, step_round]
    obtain ⟨h1, h2⟩ := List.getElem?_eq_some_iff.mp hb
    rw [List.drop_eq_getElem_cons h1, h2, List.all_cons, okr_eq]
    cases okr (b.toNat : Int) <;> simp
theorem ref_eq (s : ByteArray) (K : Nat) (hK : 20 ≤ K) : portageref10_NameMay.f K s = some (nm s.data.toList) := by
  obtain ⟨m, rfl⟩ : ∃ m, K = m + 1 := ⟨K - 1, by omega⟩
  have hl := size_list s
  unfold portageref10_NameMay.f nm
  rw [Lib.toList_data]
  have jt : portageref10_NameMay.j0 (m + 1) s true = some false := by rw [portageref10_NameMay.j0, if_pos rfl]
  by_cases h1 : (s.size : Int) < 1
  · rw [if_pos h1, jt, decide_eq_false (p := 1 ≤ s.data.toList.length) (by omega), Bool.false_and]
  · rw [if_neg h1, decide_eq_true (p := 1 ≤ s.data.toList.length) (by omega), Bool.true_and]
    by_cases h2 : (s.size : Int) > 8
    · rw [if_pos h2, jt, decide_eq_false (p := s.data.toList.length ≤ 8) (by omega), Bool.false_and]
    · rw [if_neg h2, decide_eq_true (p := s.data.toList.length ≤ 8) (by omega), Bool.true_and]
      by_cases h3 : s.data.toList = [46]
      · rw [if_pos h3, jt, decide_eq_false (p := s.data.toList ≠ [46]) (by simpa using h3), Bool.false_and, Bool.and_false]
      · rw [if_neg h3, decide_eq_true (p := s.data.toList ≠ [46]) h3, Bool.true_and]
        by_cases h4 : s.data.toList = [46, 46]
        · rw [show (s.data.toList == [46, 46]) = true from by rw [beq_iff_eq]; exact h4, jt, decide_eq_false (p := s.data.toList ≠ [46, 46]) (by simpa using h4), Bool.and_false]
        · rw [show (s.data.toList == [46, 46]) = false from by rw [beq_eq_false_iff_ne]; exact h4, portageref10_NameMay.j0, if_neg (by decide), decide_eq_true (p := s.data.toList ≠ [46, 46]) h4, Bool.and_true]
          exact ref_loop s (by omega) s.size 0 (by omega) m (by omega)
theorem Names : portagelaw10_Names.Pure := by
  intro s hs
  refine ⟨20, ?_⟩
  unfold portagelaw10_Names.f
  rw [may_eq s (by omega), Option.bind_some, ref_eq s 20 (by omega), Option.bind_some, if_pos (by simp), name_awake]
  rfl
end Go.Proofs.YtdccnjinehcenaaDoor.Pure
