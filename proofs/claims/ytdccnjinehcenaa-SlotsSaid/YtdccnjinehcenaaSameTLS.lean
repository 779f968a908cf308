/- Two rows of strings that are the same. -/
import Derived.Test.YtdccnjinehcenaaDiskPLS
import Derived.Test.YtdccnjinehcenaaLS4
namespace Go.Proofs.Ytdccnjinehcenaa.LS
set_option linter.unusedVariables false
set_option linter.unusedSimpArgs false
open Go.RowKit Go.Proofs.YtdccnjinehcenaaW.PrintWords Go.Proofs.YtdccnjinehcenaaW.PrintLast Go.Proofs.YtdccnjinehcenaaW.PrintMore
theorem same_l0 (l : List ByteArray) (hl : l.length ≤ 9000000000000000000) : ∀ (d i : Nat), i + d = l.length → ∀ K, d + 1 ≤ K → portagelaw0_SameTexts.l0 K l l (i : Int) = some true
  | 0, i, hi, K, hK => by
    obtain ⟨m, rfl⟩ : ∃ m, K = m + 1 := ⟨K - 1, by omega⟩
    rw [portagelaw0_SameTexts.l0, if_neg (by omega)]
  | d + 1, i, hi, K, hK => by
    obtain ⟨m, rfl⟩ : ∃ m, K = m + 1 := ⟨K - 1, by omega⟩
    have hw : wrap64 ((i : Int) + 1) = ((i + 1 : Nat) : Int) := by unfold wrap64; omega
    rw [portagelaw0_SameTexts.l0, if_pos (by omega), if_pos (by omega), if_pos (by omega), if_pos rfl, hw, same_l0 l hl d (i + 1) (by omega) m (by omega)]
theorem same_eq (l : List ByteArray) (hl : l.length ≤ 9000000000000000000) (K : Nat) (hK : l.length + 1 ≤ K) : portagelaw0_SameTexts.f K l l = some true := by
  unfold portagelaw0_SameTexts.f
  rw [if_pos rfl]
  exact same_l0 l hl l.length 0 (by omega) K hK
end Go.Proofs.Ytdccnjinehcenaa.LS
