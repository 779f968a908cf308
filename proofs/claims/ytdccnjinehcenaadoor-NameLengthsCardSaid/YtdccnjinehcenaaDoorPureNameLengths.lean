/- The plain law of portagelaw10.NameLengths: names of 1 to MaxName bytes are names, longer ones are not. -/
import Derived.Test.YtdccnjinehcenaaDoorNameLN
import Derived.Test.YtdccnjinehcenaaDoorNameAN
import Derived.Test.YtdccnjinehcenaaDoorN5
namespace Go.Proofs.YtdccnjinehcenaaDoor.Pure
set_option linter.unusedVariables false
set_option linter.unusedSimpArgs false
open Go.RowKit Go.Proofs.YtdccnjinehcenaaDoor.N Go.Proofs.YtdccnjinehcenaaDoorW.PrintWords Go.Proofs.YtdccnjinehcenaaDoorW.PrintLast Go.Proofs.YtdccnjinehcenaaDoorW.PrintMore
theorem len_at : ∀ n : Fin 20, (nm ([97, 98, 99, 100, 101, 102, 103, 104, 105, 106, 107, 108, 109, 110, 111, 112, 113, 114, 115, 116].take n.val) = (decide (1 ≤ n.val) && decide (n.val ≤ 8))) ∧ (nm ([46, 46, 46, 46, 46, 46, 46, 46, 46, 46, 46, 46, 46, 46, 46, 46, 46, 46, 46, 46].take n.val) = (decide (3 ≤ n.val) && decide (n.val ≤ 8))) := by decide +kernel
theorem may_take (l : List UInt8) (n : Nat) (h : l.length ≤ 1000) : name_May.f ((⟨l.toArray⟩ : ByteArray).extract 0 n) = some (nm (l.take n)) := by
  have hd : ((⟨l.toArray⟩ : ByteArray).extract 0 n).data.toList = l.take n := by
    rw [ByteArray.data_extract, Array.toList_extract, List.extract_eq_take_drop, List.drop_zero, Nat.sub_zero]
  have hl := size_list ((⟨l.toArray⟩ : ByteArray).extract 0 n)
  rw [hd, List.length_take] at hl
  rw [may_eq _ (by omega), hd]
theorem NameLengths : portagelaw10_NameLengths.Pure := by
  intro a0 hw
  unfold portagelaw10_NameLengths.f
  rw [name_awake, Option.bind_some, if_pos rfl]
  obtain ⟨n, hn, he⟩ : ∃ n : Nat, n < 20 ∧ wrap64 (Int.tmod (IntKind.u64.wrap a0) 20) = (n : Int) := by
    have hu : IntKind.u64.wrap a0 = a0 % 18446744073709551616 := rfl
    rw [hu, Int.tmod_eq_emod_of_nonneg (by omega)]
    refine ⟨(a0 % 18446744073709551616 % 20).toNat, by omega, ?_⟩
    unfold wrap64
    omega
  obtain ⟨g1, g2⟩ := len_at ⟨n, hn⟩
  rw [he, if_pos (by omega), if_pos (by omega), Int.toNat_natCast]
  unfold portagelaw0_Num.f
  rw [Option.bind_some, if_pos rfl, may_take [97, 98, 99, 100, 101, 102, 103, 104, 105, 106, 107, 108, 109, 110, 111, 112, 113, 114, 115, 116] n (by decide), may_take [46, 46, 46, 46, 46, 46, 46, 46, 46, 46, 46, 46, 46, 46, 46, 46, 46, 46, 46, 46] n (by decide), Option.bind_some]
  replace g1 : nm ([97, 98, 99, 100, 101, 102, 103, 104, 105, 106, 107, 108, 109, 110, 111, 112, 113, 114, 115, 116].take n) = (decide (1 ≤ n) && decide (n ≤ 8)) := g1
  replace g2 : nm ([46, 46, 46, 46, 46, 46, 46, 46, 46, 46, 46, 46, 46, 46, 46, 46, 46, 46, 46, 46].take n) = (decide (3 ≤ n) && decide (n ≤ 8)) := g2
  rw [g1, g2]
  have e8 : decide ((n : Int) ≤ 8) = decide (n ≤ 8) := decide_eq_decide.mpr (by omega)
  rw [e8]
  by_cases h1 : (n : Int) ≥ 1
  · rw [if_pos h1, decide_eq_true (p := 1 ≤ n) (by omega), Bool.true_and, if_pos (by simp), Option.bind_some]
    by_cases h3 : (n : Int) ≥ 3
    · rw [if_pos h3, decide_eq_true (p := 3 ≤ n) (by omega), Bool.true_and]; simp
    · rw [if_neg h3, decide_eq_false (p := 3 ≤ n) (by omega)]; rfl
  · rw [if_neg h1, decide_eq_false (p := 1 ≤ n) (by omega), Bool.false_and, if_pos (by decide), Option.bind_some, if_neg (by omega), decide_eq_false (p := 3 ≤ n) (by omega)]
    rfl
end Go.Proofs.YtdccnjinehcenaaDoor.Pure
