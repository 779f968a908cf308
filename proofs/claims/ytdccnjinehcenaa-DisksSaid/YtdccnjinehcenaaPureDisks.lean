/- The plain law of portagelaw17.Disks: every Run answers as the document's; the disk and the writes stay. -/
import Derived.Test.YtdccnjinehcenaaDiskLDD
import Derived.Test.YtdccnjinehcenaaDiskADD
import Derived.Test.YtdccnjinehcenaaDiskRDD
import Derived.Test.YtdccnjinehcenaaDD11
import Derived.Test.YtdccnjinehcenaaDDODisks
namespace Go.Proofs.Ytdccnjinehcenaa.Pure
set_option linter.unusedVariables false
set_option linter.unusedSimpArgs false
open Go.RowKit Go.Proofs.Ytdccnjinehcenaa.DD Go.Proofs.YtdccnjinehcenaaW.PrintWords Go.Proofs.YtdccnjinehcenaaW.PrintLast Go.Proofs.YtdccnjinehcenaaW.PrintMore
theorem fine_small {d : List ByteArray} (h : fine d) : d.length ≤ 5864062014640 := by have := h.1; omega
/-- The law's own end, whatever the disk. -/
theorem tail_eq (d : List ByteArray) (ws : List S42) (a3 a4 : Int) (hd : d.length ≤ 8796093021952) (hl : ws.length ≤ 5864062014640) (k : Nat) (hk : 2 * ws.length + d.length + 1000 ≤ k) :
    ((some (([] : List ByteArray) : List ByteArray)).bind fun y312 => (if y312.length + d.length < 8796093022208 then ((some (y312 ++ d : List ByteArray)).bind fun y315 => ((portagelaw0_LendWrites.f ws).bind fun bt318 => ((disk_Run.f k y315 bt318.1 a3 a4).bind fun bt323 => ((portageref17_Run.f k d ws a3 a4).bind fun bt327 => ((portagelaw0_SameTexts.f k bt323.1 bt327.1).bind fun t331 => (if t331 = true then ((portagelaw0_Num.f bt323.2).bind fun t332 => (if t332 = bt327.2 then ((disk_May.f k y315).bind fun t333 => ((portageref17_DiskMay.f k d).bind fun t334 => (if (t333 != t334) = true then (none) else ((portagelaw0_SpoilTexts.f k bt323.1).bind fun t335 => ((disk_New.f).bind fun t336 => ((portagelaw0_SpoilTexts.f k t336).bind fun t339 => ((portagelaw0_SameTexts.f k y315 d).bind fun t340 => (if t340 = true then ((portagelaw0_KeptWrites.f k bt318.1 bt318.2 ws).bind fun t341 => (if t341 = true then ((disk_New.f).bind fun t342 => ((portageref17_NewDisk.f k).bind fun t345 => ((portagelaw0_SameTexts.f k t342 t345).bind fun t348 => (if t348 = true then ((portagelaw17_awake.f k).bind fun t349 => (some t349)) else (none))))) else (none))) else (none))))))))) else (none))) else (none))))))) else (none))) = some true := by
  obtain ⟨r, e, s, hr1, hr2, hr3, hs⟩ := both d ws a3 a4 (by omega) (by omega) k (by omega)
  obtain ⟨s2, hs2⟩ := spoil_fine fine_new k (by omega)
  rw [Option.bind_some, List.length_nil, if_pos (by omega), List.nil_append, Option.bind_some, lend_eq ws hl, Option.bind_some]
  dsimp only
  rw [hr1, Option.bind_some, hr2, Option.bind_some]
  dsimp only
  rw [same_eq r (by omega) k (by omega), Option.bind_some, if_pos rfl]
  unfold portagelaw0_Num.f
  rw [Option.bind_some, if_pos rfl, may_eq d (by omega) k (by omega), Option.bind_some, ref_may d (by omega) k (by omega), Option.bind_some, if_neg (by simp), hs, Option.bind_some, new_eq, Option.bind_some, hs2, Option.bind_some, same_eq d (by omega) k (by omega), Option.bind_some, if_pos rfl, kept_eq ws hl k (by omega), Option.bind_some, if_pos rfl, Option.bind_some, newdisk_eq k (by omega), Option.bind_some, same_eq _ (by rw [List.length_replicate]; omega) k (by rw [List.length_replicate]; omega), Option.bind_some, if_pos rfl, awake_eq k (by omega)]
  rfl
theorem l0_eq (ws : List S42) (a3 a4 : Int) (hl : ws.length ≤ 5864062014640) : ∀ (q i : Nat), i + q = 130 → ∀ d : List ByteArray, d.length = 130 → ∀ K, 2 * ws.length + q + 1200 ≤ K → portagelaw17_Disks.l0 K d ws a3 a4 (i : Int) = some true
  | 0, i, hi, d, hd, K, hK => by
    obtain ⟨m, rfl⟩ : ∃ m, K = m + 1 := ⟨K - 1, by omega⟩
    have ht := tail_eq d ws a3 a4 (by omega) hl m (by omega)
    rw [portagelaw17_Disks.l0]
    by_cases h : (i : Int) < (ws.length : Int)
    · rw [if_pos h, if_neg (by omega)]
      exact ht
    · rw [if_neg h]
      exact ht
  | q + 1, i, hi, d, hd, K, hK => by
    obtain ⟨m, rfl⟩ : ∃ m, K = m + 1 := ⟨K - 1, by omega⟩
    have ht := tail_eq d ws a3 a4 (by omega) hl m (by omega)
    have hw : wrap64 ((i : Int) + 1) = ((i + 1 : Nat) : Int) := by unfold wrap64; omega
    rw [portagelaw17_Disks.l0]
    by_cases h : (i : Int) < (ws.length : Int)
    · rw [if_pos h, if_pos (by omega), full_eq _ _ (by omega), Option.bind_some, if_pos (by omega), hw]
      exact l0_eq ws a3 a4 hl q (i + 1) (by omega) _ (by rw [List.length_set]; exact hd) m (by omega)
    · rw [if_neg h]
      exact ht
theorem Disks : portagelaw17_Disks.Pure := by
  intro a0 d ws a3 a4 hd hw _ _
  refine ⟨2 * ws.length + d.length + 2000, ?_⟩
  have h1 : d.length ≤ 8796093021952 := by have := hd.1; omega
  have h2 : ws.length ≤ 5864062014640 := by have := hw.1; omega
  unfold portagelaw17_Disks.f
  by_cases h : a0 = true
  · rw [if_pos h, newdisk_eq _ (by omega), Option.bind_some]
    exact l0_eq ws a3 a4 h2 130 0 (by omega) _ List.length_replicate _ (by omega)
  · rw [if_neg h]
    exact tail_eq d ws a3 a4 h1 h2 _ (by omega)
end Go.Proofs.Ytdccnjinehcenaa.Pure
