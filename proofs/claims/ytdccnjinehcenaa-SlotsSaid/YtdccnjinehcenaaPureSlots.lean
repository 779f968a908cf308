/- The plain law of portagelaw18.Slots: every Plan and every Find answers as the document's. -/
import Derived.Test.YtdccnjinehcenaaDiskPLS
import Derived.Test.YtdccnjinehcenaaDiskMLS
import Derived.Test.YtdccnjinehcenaaRefDLS
import Derived.Test.YtdccnjinehcenaaLowLLS
import Derived.Test.YtdccnjinehcenaaSlotLLS
import Derived.Test.YtdccnjinehcenaaSlotPLS
import Derived.Test.YtdccnjinehcenaaSlotNLS
import Derived.Test.YtdccnjinehcenaaNumRLS
import Derived.Test.YtdccnjinehcenaaSlotRLS
import Derived.Test.YtdccnjinehcenaaSlotSLS
import Derived.Test.YtdccnjinehcenaaSameTLS
import Derived.Test.YtdccnjinehcenaaLS13
import Derived.Test.YtdccnjinehcenaaLSOSlots
namespace Go.Proofs.Ytdccnjinehcenaa.Pure
set_option linter.unusedVariables false
set_option linter.unusedSimpArgs false
open Go.RowKit Go.Proofs.Ytdccnjinehcenaa.LS Go.Proofs.YtdccnjinehcenaaW.PrintWords Go.Proofs.YtdccnjinehcenaaW.PrintLast Go.Proofs.YtdccnjinehcenaaW.PrintMore
theorem find_both (d : List ByteArray) (hl : d.length ≤ 9000000000000000000) (K : Nat) (hK : d.length + 500 ≤ K) : ∃ (a : Int) (s : ByteArray) (e : Int), (e = 0 ∨ e = 1800 ∨ e = 1801) ∧ slot_Find.f K d = some (a, s, e) ∧ portageref17_FindSlot.f K d = some (a, s, e) := by
  cases h : mayB d with
  | false => exact ⟨0, ⟨#[]⟩, 1800, .inr (.inl rfl), find_bad d hl h K (by omega), rfind_bad d hl h K (by omega)⟩
  | true =>
    have hd := mayB_true.mp h
    have h1 := find_eq d hd K (by omega)
    have h2 := rfind_eq d hd K (by omega)
    cases hb : best (slotOf (blkOf d) 0) (slotOf (blkOf d) 65) with
    | none => rw [hb] at h1 h2; exact ⟨_, _, _, .inr (.inr rfl), h1, h2⟩
    | some x => rw [hb] at h1 h2; exact ⟨_, _, _, .inl rfl, h1, h2⟩
theorem num_eq (e : Int) (h : e = 0 ∨ e = 1800 ∨ e = 1801) : portagelaw0_Num.f e = some e := by
  rcases h with rfl | rfl | rfl <;> decide +kernel
theorem plan_both (a0 : Int) (a1 : ByteArray) (K : Nat) (hK : 100 ≤ K) : ∃ (ws : List S42) (e : Int), (e = 0 ∨ e = 1800 ∨ e = 1801) ∧ ws.length ≤ 1000 ∧ (e = 0 → ∃ q, 1 ≤ q ∧ q ≤ 1048576 ∧ a1.size ≤ 4096 ∧ ws = plan q a1) ∧ slot_Plan.f K a0 a1 = some (ws, e) ∧ portageref17_Plan.f K a0 a1 = some (ws, e) := by
  by_cases h : a0 < 1 ∨ a0 > 1048576 ∨ 4096 < a1.size
  · exact ⟨[], 1800, .inr (.inl rfl), by decide, fun h => absurd h (by decide), plan_bad a0 a1 h K, rplan_bad a0 a1 h K (by omega)⟩
  · obtain ⟨q, rfl⟩ : ∃ q : Nat, a0 = (q : Int) := ⟨a0.toNat, by omega⟩
    have hl := plan_length q a1
    have hb : blocks a1 ≤ 64 := by unfold blocks; omega
    exact ⟨plan q a1, 0, .inl rfl, by omega, fun _ => ⟨q, by omega, by omega, by omega, rfl⟩, plan_eq q (by omega) (by omega) a1 (by omega) K hK, rplan_eq q (by omega) (by omega) a1 (by omega) K hK⟩
theorem tail_eq (ws : List S42) (e : Int) (he : e = 0 ∨ e = 1800 ∨ e = 1801) (hw : ws.length ≤ 1000) (d : List ByteArray) (hd : d.length ≤ 8796093021952) (k : Nat) (hk : d.length + 2000 ≤ k) :
    ((some (([] : List ByteArray) : List ByteArray)).bind fun y300 => (if y300.length + d.length < 8796093022208 then ((some (y300 ++ d : List ByteArray)).bind fun y303 => ((slot_Find.f k y303).bind fun bt306 => ((portageref17_FindSlot.f k d).bind fun bt309 => ((portagelaw0_SameWrites.f k ws ws).bind fun t312 => (if t312 = true then ((portagelaw0_Num.f e).bind fun t313 => (if t313 = e then (if bt306.1 = bt309.1 then (if bt306.2.1.toList = bt309.2.1.toList then ((portagelaw0_Num.f bt306.2.2).bind fun t314 => (if t314 = bt309.2.2 then ((portagelaw0_SpoilWrites.f k ws).bind fun t315 => ((portagelaw0_SameTexts.f k y303 d).bind fun t316 => (if t316 = true then ((portagelaw18_awake.f k).bind fun t317 => (some t317)) else (none)))) else (none))) else (none)) else (none)) else (none))) else (none)))))) else (none))) = some true := by
  obtain ⟨a, s, f, hf, h1, h2⟩ := find_both d (by omega) k (by omega)
  obtain ⟨v, hv⟩ := spoilw_eq ws hw k (by omega)
  rw [Option.bind_some, List.length_nil, if_pos (by omega), List.nil_append, Option.bind_some, h1, Option.bind_some, h2, Option.bind_some, samew_eq ws hw k (by omega), Option.bind_some, if_pos rfl, num_eq e he, Option.bind_some, if_pos rfl]
  dsimp only
  rw [if_pos rfl, if_pos rfl, num_eq f hf, Option.bind_some, if_pos rfl, hv, Option.bind_some, same_eq d (by omega) k (by omega), Option.bind_some, if_pos rfl, awake_eq k (by omega), Option.bind_some]
theorem Slots : portagelaw18_Slots.Pure := by
  intro a0 a1 a2 d _ _ hd
  have hd1 : d.length ≤ 8796093021952 := by have := hd.1; omega
  refine ⟨d.length + 3000, ?_⟩
  generalize hk : d.length + 3000 = k
  obtain ⟨ws, e, he, hw, hq, h1, h2⟩ := plan_both a0 a1 k (by omega)
  unfold portagelaw18_Slots.f
  rw [h1, Option.bind_some, h2, Option.bind_some]
  dsimp only
  have ht := tail_eq ws e he hw d hd1 k (by omega)
  by_cases c : a2 = true
  · rw [if_pos c]
    by_cases c2 : e = 0
    · obtain ⟨q, q1, q2, q3, rfl⟩ := hq c2
      rw [if_pos c2, newdisk_eq k (by omega), Option.bind_some]
      change ((portageref17_Run.f k nd (plan q a1) ((plan q a1).length : Int) 0).bind _) = _
      rw [put_run nd fine_nd q a1 q3 k (by omega), Option.bind_some]
      exact tail_eq (plan q a1) e he hw (put nd q a1) (by have := (put_fine nd fine_nd q a1 q3).1; omega) k (by have := (put_fine nd fine_nd q a1 q3).1; omega)
    · rw [if_neg c2]
      exact ht
  · rw [if_neg c]
    exact ht
end Go.Proofs.Ytdccnjinehcenaa.Pure
