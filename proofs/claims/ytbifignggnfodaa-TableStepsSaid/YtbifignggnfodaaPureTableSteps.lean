import Derived.Test.YtbifignggnfodaaTabLT
import Derived.Test.YtbifignggnfodaaT7
namespace Go.Proofs.Ytbifignggnfodaa.Pure
set_option linter.unusedVariables false
set_option linter.unusedSimpArgs false
open Go Go.RowKit Go.Proofs.Ytbifignggnfodaa.T Go.Proofs.YtbifignggnfodaaW.PrintWords Go.Proofs.YtbifignggnfodaaW.PrintLast Go.Proofs.YtbifignggnfodaaW.PrintMore
theorem TableSteps : portagelaw6_TableSteps.Pure := by
  intro x _
  refine ⟨60, ?_⟩
  obtain ⟨s, hs, es⟩ := u64_tmod x 27 (by decide)
  obtain ⟨t, ht, et⟩ := u64_tmod x 29 (by decide)
  replace es : Int.tmod (IntKind.u64.wrap x) 27 = (s : Int) := es
  replace et : Int.tmod (IntKind.u64.wrap x) 29 = (t : Int) := et
  have e1 : wrap64 (257 + wrap64 (s : Int)) = ((257 + s : Nat) : Int) := by rw [w64 (n := (s : Int)) (by omega) (by omega), w64 (by omega) (by omega)]; omega
  have e2 : wrap64 (((257 + s : Nat) : Int) + 1) = ((257 + (s + 1) : Nat) : Int) := by rw [w64 (by omega) (by omega)]; omega
  have e3 : wrap64 (t : Int) = (t : Int) := w64 (by omega) (by omega)
  have e4 : wrap64 ((t : Int) + 1) = ((t + 1 : Nat) : Int) := by rw [w64 (by omega) (by omega)]; omega
  unfold portagelaw6_TableSteps.f
  rw [awake_true (by decide), Option.bind_some, if_pos rfl, es, et, e1, e2, e3, e4]
  clear es et e1 e2 e3 e4
  obtain ⟨hsl, hl0, hl1⟩ := shl_Bl s (by omega)
  have hll := Ll_in (s + 1) (by omega)
  obtain ⟨hsh, hb0, hb1⟩ := shl_Bd t (by omega)
  have hin := Ld_in (t + 1) (by omega)
  rw [lenOf_at (by decide) s (by omega), Option.bind_some, lenOf_at (by decide) (s + 1) (by omega), Option.bind_some]
  dsimp only
  rw [distOf_at (by decide) t (by omega), Option.bind_some, distOf_at (by decide) (t + 1) (by omega), Option.bind_some]
  dsimp only
  rw [lenOf_last (by decide), Option.bind_some, show (29 : Int) = ((29 : Nat) : Int) from rfl, distOf_at (by decide) 29 (by decide), Option.bind_some]
  dsimp only
  rw [num1, Option.bind_some, if_pos rfl, Option.bind_some, if_pos rfl, Option.bind_some, if_pos rfl, Option.bind_some, if_pos rfl, if_neg (by omega), if_neg (by omega), if_neg (by omega), decide_eq_false (p := Bd t > 13) (by omega), portagelaw6_TableSteps.j0, if_neg (by decide), if_pos hl0, if_pos (by rw [hsl, w64 (by omega) (by omega)]; omega), if_pos hb0, if_pos (by rw [hsh, w64 (by omega) (by omega)]; omega)]
  have e9 : Ld 29 = 24577 := by decide +kernel
  have e10 : Bd 29 = 13 := by decide +kernel
  rw [e9, e10]
  decide +kernel
end Go.Proofs.Ytbifignggnfodaa.Pure
