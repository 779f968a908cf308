/- The law VectorForms over the printed functions: lists and nodes that are none are refused, a full count is told; no conditions. -/
import Derived.Test.YtnjbbfcknijcnaaVecAV
import Derived.Test.YtnjbbfcknijcnaaV7
namespace Go.Proofs.Ytnjbbfcknijcnaa.Pure
set_option linter.unusedVariables false
set_option linter.unusedSimpArgs false
open Go.RowKit Go.Proofs.Ytnjbbfcknijcnaa.V Go.Proofs.YtnjbbfcknijcnaaW.PrintWords Go.Proofs.YtnjbbfcknijcnaaW.PrintLast Go.Proofs.YtnjbbfcknijcnaaW.PrintMore
open Go.Proofs.Ytnjbbfcknijcnaa
theorem VectorForms : portagelaw11_VectorForms.Pure := by
  intro which x _ _
  refine ⟨30, ?_⟩
  unfold portagelaw11_VectorForms.f
  rw [awake_true (by omega)]
  simp only [Option.bind_some, if_true]
  obtain ⟨d, hd0, hd1, ed⟩ : ∃ d : Int, 1 ≤ d ∧ d ≤ 1024 ∧ wrap64 (1 + Go.bits .and .i64 x 1023) = d := ⟨1 + x % 1024, by omega, by omega, by rw [Bits.and_10]; unfold wrap64; omega⟩
  have e1 : wrap64 (-d) = -d := by unfold wrap64; omega
  have e2 : wrap64 (1048576 + d) = 1048576 + d := by unfold wrap64; omega
  have e3 : wrap64 (3 + d) = 3 + d := by unfold wrap64; omega
  rw [ed, e1, e2, e3]
  obtain ⟨i, hi, ei⟩ : ∃ i : Nat, i < 5 ∧ wrap64 (Int.tmod (IntKind.u64.wrap which) 5) = (i : Int) := by
    have h0 : 0 ≤ IntKind.u64.wrap which := by rw [IntKind.wrap_u64]; omega
    rw [Int.tmod_eq_emod_of_nonneg h0]
    exact ⟨(IntKind.u64.wrap which % 5).toNat, by omega, by unfold wrap64; omega⟩
  rw [ei, if_pos (by omega), if_pos (by simp only [List.length_cons, List.length_nil]; omega)]
  obtain ⟨b, hb, eb⟩ : ∃ b : List Int, vok b = false ∧ rd_L1 [[], [1, 2, 3], [1, 2, 3, 4, 5], [0, 0, 0, -d], [1048576 + d, 0, 0, 0]] (i : Int) = b := by
    refine ⟨_, ?_, rfl⟩
    match i, hi with
    | 0, _ => rfl
    | 1, _ => rfl
    | 2, _ => rfl
    | 3, _ => simp [rd_L1, vok, okc]; omega
    | 4, _ => simp [rd_L1, vok, okc]; omega
  have hg : vok [1, 2, 3, 1048576] = true := by decide
  rw [eb]
  rw [order_bad b _ (by rw [hb]; rfl) (by omega)]
  simp only [Option.bind_some]
  rw [order_bad _ b (by rw [hb, Bool.and_false]) (by omega)]
  simp only [Option.bind_some]
  rw [join_bad b _ (by rw [hb]; rfl) (by omega)]
  simp only [Option.bind_some]
  rw [join_bad _ b (by rw [hb, Bool.and_false]) (by omega)]
  simp only [Option.bind_some]
  rw [step_bad b 0 (.inl hb) (by omega)]
  simp only [Option.bind_some]
  rw [step_bad _ (-d) (.inr (.inl (by omega))) (by omega)]
  simp only [Option.bind_some]
  rw [step_bad _ (3 + d) (.inr (.inr (by omega))) (by omega)]
  simp only [Option.bind_some]
  rw [show vector_Step.f 30 [1, 2, 3, 1048576] 3 = some ([], 1101) from step_k [1, 2, 3, 1048576] 3 hg (by omega) (by omega)]
  simp only [Option.bind_some]
  rw [may_k b (by omega), hb]
  simp only [Option.bind_some]
  rw [may_k _ (by omega), hg]
  simp only [Option.bind_some, num_k]
  rfl
end Go.Proofs.Ytnjbbfcknijcnaa.Pure
