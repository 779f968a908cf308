/- The plain law of portagelaw18.SlotReads: what is found has just the bytes that were planned. -/
import Derived.Test.YtdccnjinehcenaaDiskPL
import Derived.Test.YtdccnjinehcenaaDiskML
import Derived.Test.YtdccnjinehcenaaRefDL
import Derived.Test.YtdccnjinehcenaaLowLL
import Derived.Test.YtdccnjinehcenaaSlotLL
import Derived.Test.YtdccnjinehcenaaSlotPL
import Derived.Test.YtdccnjinehcenaaSlotAL
import Derived.Test.YtdccnjinehcenaaL11
namespace Go.Proofs.Ytdccnjinehcenaa.Pure
set_option linter.unusedVariables false
set_option linter.unusedSimpArgs false
open Go.RowKit Go.Proofs.Ytdccnjinehcenaa.L Go.Proofs.YtdccnjinehcenaaW.PrintWords Go.Proofs.YtdccnjinehcenaaW.PrintLast Go.Proofs.YtdccnjinehcenaaW.PrintMore
theorem SlotReads : portagelaw18_SlotReads.Pure := by
  intro a b a2 ha hb _
  refine ⟨1001, ?_⟩
  unfold portagelaw18_SlotReads.f
  rw [awake_eq 1001 (by omega), Option.bind_some, if_pos rfl, if_pos (by omega)]
  obtain ⟨kk, hkk, ek⟩ := tmod_nat a2 1048574 (by decide) (by decide)
  replace ek : wrap64 (Int.tmod (IntKind.u64.wrap a2) 1048574) = (kk : Int) := ek
  rw [ek]
  clear ek
  obtain ⟨q, hq⟩ : ∃ q, q = kk + 1 := ⟨_, rfl⟩
  have w1 : wrap64 (1 + (kk : Int)) = (q : Int) := by unfold wrap64; omega
  have w2 : wrap64 ((q : Int) + 2) = ((q + 2 : Nat) : Int) := by unfold wrap64; omega
  have hz : (a ++ b).size = a.size + b.size := ByteArray.size_append ..
  have wz : wrap64 ((a.size : Int) + (b.size : Int)) = ((a.size + b.size : Nat) : Int) := by unfold wrap64; omega
  rw [w1, w2]
  unfold portagelaw0_Num.f
  by_cases hA : a.size + b.size ≤ 4096
  · have p1 := plan_eq q (by omega) (by omega) (a ++ b) (by omega) 1001 (by omega)
    have p2 := plan_eq (q + 2) (by omega) (by omega) b (by omega) 1001 (by omega)
    rw [p1, Option.bind_some, p2, Option.bind_some]
    dsimp only
    rw [Option.bind_some, if_pos rfl, Option.bind_some, show ((0 : Int) != 0) = false from rfl]
    have r1 := put_run nd fine_nd q (a ++ b) (by omega) 1000 (by omega)
    have f1 := put_fine nd fine_nd q (a ++ b) (by omega)
    obtain ⟨s1, s2⟩ := put_slots nd fine_nd q (by omega) (by omega) (a ++ b) (by omega)
    have r2 := put_run (put nd q (a ++ b)) f1 (q + 2) b (by omega) 1000 (by omega)
    have f2 := put_fine (put nd q (a ++ b)) f1 (q + 2) b (by omega)
    obtain ⟨s3, s4⟩ := put_slots (put nd q (a ++ b)) f1 (q + 2) (by omega) (by omega) b (by omega)
    have n1 := nd_none ((q + 1) % 2 * 65) (by omega)
    have g1 := find_eq (put nd q (a ++ b)) f1 1000 (by omega)
    rw [pick (blkOf (put nd q (a ++ b))) q (q, a ++ b) s2 (fun y hy => by rw [s1, n1] at hy; exact absurd hy (by simp))] at g1
    have e3 : (q + 2 + 1) % 2 * 65 = (q + 1) % 2 * 65 := by omega
    rw [e3, s1, n1] at s3
    have g2 := find_eq (put (put nd q (a ++ b)) (q + 2) b) f2 1000 (by omega)
    rw [pick (blkOf (put (put nd q (a ++ b)) (q + 2) b)) (q + 2) (q + 2, b) s4 (fun y hy => by rw [e3, s3] at hy; exact absurd hy (by simp))] at g2
    rw [portagelaw18_SlotReads.j0, if_neg (by decide), newdisk_eq 1000 (by omega), Option.bind_some]
    change ((portageref17_Run.f 1000 nd (plan q (a ++ b)) ((plan q (a ++ b)).length : Int) 0).bind _) = _
    rw [r1, Option.bind_some]
    dsimp only
    rw [r2, Option.bind_some]
    dsimp only
    rw [g1, Option.bind_some]
    dsimp only
    rw [g2, Option.bind_some]
    dsimp only
    unfold portagelaw0_Num.f
    rw [if_pos rfl, if_pos rfl, Option.bind_some, if_pos rfl, Option.bind_some, if_pos rfl, if_pos rfl, if_pos (by omega), if_pos rfl, w2, if_pos rfl]
    simp
  · have p1 := plan_bad (q : Int) (a ++ b) (.inr (.inr (by omega))) 1001
    have hp2 : ∃ r e, slot_Plan.f 1001 ((q + 2 : Nat) : Int) b = some (r, e) := by
      by_cases hB : b.size ≤ 4096
      · exact ⟨_, _, plan_eq (q + 2) (by omega) (by omega) b (by omega) 1001 (by omega)⟩
      · exact ⟨_, _, plan_bad ((q + 2 : Nat) : Int) b (.inr (.inr (by omega))) 1001⟩
    obtain ⟨r, e, p2⟩ := hp2
    rw [p1, Option.bind_some, p2, Option.bind_some]
    dsimp only
    rw [Option.bind_some, if_neg (by decide), portagelaw18_SlotReads.j0, if_pos rfl, wz, decide_eq_true (by omega)]
end Go.Proofs.Ytdccnjinehcenaa.Pure
