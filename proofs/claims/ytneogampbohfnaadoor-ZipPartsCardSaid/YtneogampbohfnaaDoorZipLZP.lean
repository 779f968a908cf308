/- zipput's answers in the laws' words. -/
import Derived.Test.YtneogampbohfnaaDoorZP6
import Derived.Test.YtneogampbohfnaaDoorZP4
namespace Go.Proofs.YtneogampbohfnaaDoor.ZP
set_option linter.unusedVariables false
set_option linter.unusedSimpArgs false
open Go.RowKit Go.Proofs.YtneogampbohfnaaDoorW.PrintWords Go.Proofs.YtneogampbohfnaaDoorW.PrintLast Go.Proofs.YtneogampbohfnaaDoorW.PrintMore
open Go.Proofs.YtneogampbohfnaaDoor.ZB (S39 z39 k39 rd_T39)
theorem zw64 {n : Int} (h : -9223372036854775808 ≤ n) (h' : n < 9223372036854775808) : wrap64 n = n := by unfold wrap64; omega
theorem znum (n : Int) : portagelaw0_Num.f n = some n := rfl
theorem zput {l : List S39} (h : l.length ≤ 9223372036854775807) : zipput_Put.f l = some (ZipW.putR l) := by unfold zipput_Put.f; rw [if_pos h]
theorem zmay {l : List S39} (h : l.length ≤ 9223372036854775807) : zipput_May.f l = some (ZipW.mayL l) := by unfold zipput_May.f; rw [if_pos h]
/-- May it be written, and is there room? -/
def zok (l : List S39) : Prop := ZipW.mayL l = true ∧ ZipW.sizeL l ≤ 4096
theorem zput_yes {l : List S39} (h : zok l) : ZipW.putR l = (ZipW.zipL l, 0) := by
  unfold ZipW.putR
  rw [if_pos h.1, if_neg (Nat.not_lt.2 h.2)]
theorem zput_no {l : List S39} (h : ¬ zok l) : (ZipW.putR l).1 = ⟨#[]⟩ ∧ (ZipW.putR l).2 ≠ 0 := by
  unfold ZipW.putR
  by_cases h1 : ZipW.mayL l = true
  · rw [if_pos h1]
    by_cases h2 : 4096 < ZipW.sizeL l
    · rw [if_pos h2]; exact ⟨rfl, by decide⟩
    · exact absurd ⟨h1, Nat.le_of_not_lt h2⟩ h
  · rw [if_neg h1]; exact ⟨rfl, by decide⟩
theorem zput_zero {l : List S39} (h : (ZipW.putR l).2 = 0) : zok l := Classical.byContradiction fun h1 => (zput_no h1).2 h
theorem zipL_size {l : List S39} (h : ZipW.mayL l = true) : (ZipW.zipL l).size = ZipW.sizeL l := by
  have h1 := ZipW.parts_size l (ZipW.heads_of h) l.length (Nat.le_refl _)
  unfold ZipW.zipL ZipW.sizeL
  have e4 : (⟨#[80, 75, 5, 6]⟩ : ByteArray).size = 4 := rfl
  simp only [ByteArray.size_append, ZipW.numsB_size, e4, List.length_cons, List.length_nil]
  omega
end Go.Proofs.YtneogampbohfnaaDoor.ZP
