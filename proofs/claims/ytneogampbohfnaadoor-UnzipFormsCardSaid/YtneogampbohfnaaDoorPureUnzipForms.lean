/- The plain law of portagelaw14.UnzipForms: texts that are no archive, one by one. -/
import Derived.Test.YtneogampbohfnaaDoorZipZZG
import Derived.Test.YtneogampbohfnaaDoorZG12
import Derived.Test.YtneogampbohfnaaDoorZG8
namespace Go.Proofs.YtneogampbohfnaaDoor.Pure
set_option linter.unusedVariables false
set_option linter.unusedSimpArgs false
open Go.RowKit Go.Proofs.YtneogampbohfnaaDoor.ZG Go.Proofs.YtneogampbohfnaaDoorW.PrintWords Go.Proofs.YtneogampbohfnaaDoorW.PrintLast Go.Proofs.YtneogampbohfnaaDoorW.PrintMore
open Go.Proofs.YtneogampbohfnaaDoor.ZB (S39 z39 k39 rd_T39)
namespace UnzipForms
theorem end_size : (ZipW.endB y1).size = 95 := by
  have := congrArg ByteArray.size y1_parts
  rw [y1_size, ByteArray.size_append, x1_part] at this
  omega
/-- Which one of the texts. -/
theorem which (a : Int) : ∃ n : Nat, n < 14 ∧ wrap64 (Int.tmod (IntKind.u64.wrap a) 14) = (n : Int) := by
  have h3 : ∃ A : Nat, IntKind.u64.wrap a = (A : Int) := by
    refine ⟨(IntKind.u64.wrap a).toNat, ?_⟩
    have : (0 : Int) ≤ IntKind.u64.wrap a := by
      show (0 : Int) ≤ a % 18446744073709551616
      omega
    omega
  obtain ⟨A, hA⟩ := h3
  refine ⟨A % 14, Nat.mod_lt _ (by decide), ?_⟩
  have h4 : Int.tmod (A : Int) 14 = ((A % 14 : Nat) : Int) := by
    rw [Int.tmod_eq_emod_of_nonneg (by omega)]; simp
  have h5 : A % 14 < 14 := Nat.mod_lt _ (by decide)
  rw [hA, h4]
  unfold wrap64
  omega
def texts : List ByteArray := [(⟨#[]⟩ : ByteArray), (⟨#[80]⟩ : ByteArray), (⟨#[80, 75, 5, 6]⟩ : ByteArray), ZipW.zipL [] ++ ZipW.zipL [], ZipW.zipL y1 ++ ZipW.zipL [], ZipW.zipL [] ++ ZipW.zipL y1, ZipW.partF x1, (ZipW.partF x1 ++ ZipW.partF x1) ++ ZipW.endB y1, ZipW.partF x1 ++ ZipW.zipL [], ZipW.endB y1, (ZipW.zipL y1).extract 0 153, (⟨#[0]⟩ : ByteArray) ++ ZipW.zipL y1, (ZipW.zipL y1).extract 0 132, (ZipW.zipL []).extract 0 21 ++ (⟨#[1]⟩ : ByteArray)]
theorem all_none (n : Nat) (hn : n < 14) {K : Nat} (hK : 200 ≤ K) : zipget_Get.f K (rdOf ByteArray.empty texts (n : Int)) = some ([], 1400) := by
  have hy := y1_size
  have h : n = 0 ∨ n = 1 ∨ n = 2 ∨ n = 3 ∨ n = 4 ∨ n = 5 ∨ n = 6 ∨ n = 7 ∨ n = 8 ∨ n = 9 ∨ n = 10 ∨ n = 11 ∨ n = 12 ∨ n = 13 := by omega
  rcases h with rfl | rfl | rfl | rfl | rfl | rfl | rfl | rfl | rfl | rfl | rfl | rfl | rfl | rfl
  · exact not_short _ (by decide) hK
  · exact not_short (⟨#[80]⟩ : ByteArray) (by decide) hK
  · exact not_short (⟨#[80, 75, 5, 6]⟩ : ByteArray) (by decide) hK
  · exact not_more [] zok_nil (ZipW.zipL []) (by rw [nil_size]; decide) hK
  · exact not_more y1 zok_y1 (ZipW.zipL []) (by rw [nil_size]; decide) hK
  · exact not_more [] zok_nil (ZipW.zipL y1) (by rw [hy]; decide) hK
  · have h := not_cut y1 zok_y1 59 (by rw [hy]; decide) hK
    rw [y1_cut.1] at h
    exact h
  · exact none_7 (ZipW.endB y1) hK
  · exact none_8 hK
  · exact none_9 hK
  · exact not_cut y1 zok_y1 153 (by rw [hy]; decide) hK
  · exact none_11 (ZipW.zipL y1) hK
  · exact not_cut y1 zok_y1 132 (by rw [hy]; decide) hK
  · exact none_13 hK
theorem rest (a : Int) : pn_UnzipForms.j0 401 a (ZipW.zipL y1) (ZipW.zipL []) false = some true := by
  obtain ⟨n, hn, e⟩ := which a
  have w1 : wrap64 (((154 : Nat) : Int) - 1) = 153 := by decide +kernel
  have w2 : wrap64 (((154 : Nat) : Int) - 22) = 132 := by decide +kernel
  have t59 : (((59 : Nat) : Int) : Int).toNat = 59 := rfl
  rw [pn_UnzipForms.j0, if_neg (by decide)]
  simp only [y1_cut.1, x1_part, y1_size, nil_size, t59, y1_cut.2, ByteArray.size_append, end_size, w1, w2, e]
  have h21 : ((ZipW.zipL []).extract 0 21).size = 21 := by rw [ByteArray.size_extract, nil_size]; rfl
  repeat rw [if_pos (by first | decide | omega)]
  rw [Option.bind_some]
  rw [if_pos (by omega)]
  have h : zipget_Get.f 400 (rdOf ByteArray.empty texts (n : Int)) = some ([], 1400) := all_none n hn (by decide)
  have hl : (n : Int) < (texts.length : Int) := by show (n : Int) < 14; omega
  show (if (n : Int) < (texts.length : Int) then (zipget_Get.f 400 (rdOf ByteArray.empty texts (n : Int))).bind _ else none) = some true
  rw [if_pos hl, h, Option.bind_some]
  rfl
end UnzipForms
open UnzipForms in
theorem UnzipForms : pn_UnzipForms.Pure := by
  intro a _
  refine ⟨401, ?_⟩
  unfold pn_UnzipForms.f
  have e : ([(⟨(smT ⟨#[97]⟩ 0 1 ⟨#[104, 105]⟩).1, (smT ⟨#[97]⟩ 0 1 ⟨#[104, 105]⟩).2.1, (smT ⟨#[97]⟩ 0 1 ⟨#[104, 105]⟩).2.2.1, (smT ⟨#[97]⟩ 0 1 ⟨#[104, 105]⟩).2.2.2.1, (smT ⟨#[97]⟩ 0 1 ⟨#[104, 105]⟩).2.2.2.2.1, (smT ⟨#[97]⟩ 0 1 ⟨#[104, 105]⟩).2.2.2.2.2.1, (smT ⟨#[97]⟩ 0 1 ⟨#[104, 105]⟩).2.2.2.2.2.2.1, (smT ⟨#[97]⟩ 0 1 ⟨#[104, 105]⟩).2.2.2.2.2.2.2.1, (smT ⟨#[97]⟩ 0 1 ⟨#[104, 105]⟩).2.2.2.2.2.2.2.2⟩ : S39)] : List S39) = y1 := rfl
  rw [awake14 (by decide), Option.bind_some, if_pos rfl, small_at _ _ _ _ some_a (by decide), Option.bind_some, e, zput (show y1.length ≤ 9223372036854775807 from by decide), Option.bind_some, zput (show ([] : List S39).length ≤ 9223372036854775807 from by decide), Option.bind_some, zput_yes zok_y1, zput_yes zok_nil]
  dsimp only
  rw [znum, Option.bind_some, if_pos rfl, if_pos (by rw [nil_size]; rfl), y1_size]
  exact rest a
end Go.Proofs.YtneogampbohfnaaDoor.Pure
