/- Chapter 17: what every program answers that is one. -/
import Derived.Test.YtdccnjinehcenaaDiskLDD
import Derived.Test.YtdccnjinehcenaaDD10
namespace Go.Proofs.Ytdccnjinehcenaa.DD
set_option linter.unusedVariables false
set_option linter.unusedSimpArgs false
open Go.RowKit Go.Proofs.YtdccnjinehcenaaW.PrintWords Go.Proofs.YtdccnjinehcenaaW.PrintLast Go.Proofs.YtdccnjinehcenaaW.PrintMore
theorem fine_new : fine (List.replicate 130 (blk 0)) := ⟨List.length_replicate, fun s hs => by rw [List.eq_of_mem_replicate hs]; exact blk_size 0⟩
def aws : List S42 := [⟨1, blk 97⟩, ⟨1, blk 98⟩]
theorem aws_fine : aws.any badw = false := by decide +kernel
theorem awake_eq (K : Nat) (hK : 400 ≤ K) : portagelaw17_awake.f K = some true := by
  obtain ⟨m, rfl⟩ : ∃ m, K = m + 1 := ⟨K - 1, by omega⟩
  have r1 := run_ok (List.replicate 130 (blk 0)) aws 2 0 fine_new aws_fine (by decide) (by decide) (by decide) (.inl rfl) (m + 1) (by show 2 + 200 ≤ m + 1; omega)
  have r2 := run_ok (List.replicate 130 (blk 0)) aws 1 3 fine_new aws_fine (by decide) (by decide) (by decide) (.inr (by decide)) (m + 1) (by show 2 + 200 ≤ m + 1; omega)
  have r3 := run_bad (List.replicate 130 (blk 0)) aws 2 1 (by decide) (by rw [List.length_replicate]; decide) (.inr (.inr (.inr (.inr (.inr (.inr ⟨by decide, by decide⟩)))))) (m + 1) (by rw [List.length_replicate]; show 2 + 130 + 2 ≤ m + 1; omega)
  have r4 := run_bad [] [] 0 0 (by decide) (by decide) (.inl (by decide)) (m + 1) (by show 0 + 0 + 2 ≤ m + 1; omega)
  have f1 := fine_ran (ws := aws) (n := 2) (t := 0) fine_new aws_fine (by decide)
  have f2 := fine_ran (ws := aws) (n := 1) (t := 3) fine_new aws_fine (by decide)
  unfold portagelaw17_awake.f
  rw [new_eq, Option.bind_some, full_eq 97 _ (by omega), Option.bind_some, full_eq 98 _ (by omega), Option.bind_some, Option.bind_some]
  show ((disk_Run.f (m + 1) (List.replicate 130 (blk 0)) aws ((2 : Nat) : Int) ((0 : Nat) : Int)).bind fun bt149 => ((disk_Run.f (m + 1) (List.replicate 130 (blk 0)) aws ((1 : Nat) : Int) ((3 : Nat) : Int)).bind fun bt153 => ((disk_Run.f (m + 1) (List.replicate 130 (blk 0)) aws 2 1).bind fun bt157 => _))) = _
  rw [r1, Option.bind_some, r2, Option.bind_some, r3, Option.bind_some, r4, Option.bind_some]
  dsimp only
  rw [if_pos (by have := f1.1; omega), if_pos (by have := f2.1; omega), if_pos (by have := f2.1; omega)]
  have e2 : (rdOf ByteArray.empty (ran (List.replicate 130 (blk 0)) aws 1 3) 1).size = 64 := fine_get f2 (i := 1) (by decide)
  rw [e2, show ((((64 : Nat) : Int)) != 64) = false from rfl, portagelaw17_awake.j0, if_neg (by decide), may_eq _ (by rw [List.length_replicate]; decide) _ (by rw [List.length_replicate]; omega), Option.bind_some, mayB_true.mpr fine_new, if_pos rfl, if_pos (by have := f1.1; omega), full_eq 98 _ (by omega), Option.bind_some, if_pos (by decide +kernel)]
  unfold portagelaw0_Num.f
  rw [Option.bind_some, if_pos rfl, if_pos (by have := f2.1; omega), if_pos (by decide), e2, if_pos (by decide), if_pos (by decide +kernel), Option.bind_some, if_pos rfl, Option.bind_some, if_pos rfl, Option.bind_some, if_pos rfl, may_eq [] (by decide) _ (by show 0 + 1 ≤ m; omega)]
  rfl
end Go.Proofs.Ytdccnjinehcenaa.DD
