/- Chapter 18: which slot is found; what every program answers that is one. -/
import Derived.Test.YtdccnjinehcenaaDiskPLF
import Derived.Test.YtdccnjinehcenaaDiskMLF
import Derived.Test.YtdccnjinehcenaaRefDLF
import Derived.Test.YtdccnjinehcenaaLowLLF
import Derived.Test.YtdccnjinehcenaaSlotLLF
import Derived.Test.YtdccnjinehcenaaSlotPLF
import Derived.Test.YtdccnjinehcenaaLF8
namespace Go.Proofs.Ytdccnjinehcenaa.LF
set_option linter.unusedVariables false
set_option linter.unusedSimpArgs false
open Go.RowKit Go.Proofs.YtdccnjinehcenaaW.PrintWords Go.Proofs.YtdccnjinehcenaaW.PrintLast Go.Proofs.YtdccnjinehcenaaW.PrintMore
def nd : List ByteArray := List.replicate 130 (blk 0)
theorem fine_nd : fine nd := ⟨List.length_replicate, fun s hs => by rw [List.eq_of_mem_replicate hs]; exact blk_size 0⟩
theorem nd_blk (p : Nat) (hp : p < 130) : blkOf nd p = blk 0 := by
  unfold blkOf nd
  rw [List.getD_eq_getElem?_getD, List.getElem?_replicate, if_pos hp]
  rfl
theorem nd_none (p : Nat) (hp : p < 130) : slotOf (blkOf nd) p = none := by
  refine slotOf_none (.inl ?_)
  rw [nd_blk p hp, bytes_blk0]
  decide
theorem pick (g : Nat → ByteArray) (q : Nat) (x : Nat × ByteArray) (h : slotOf g (q % 2 * 65) = some x) (h2 : ∀ y, slotOf g ((q + 1) % 2 * 65) = some y → y.1 < x.1) : best (slotOf g 0) (slotOf g 65) = some x := by
  rcases Nat.mod_two_eq_zero_or_one q with e | e
  · have e2 : (q + 1) % 2 = 1 := by omega
    rw [e] at h
    rw [e2] at h2
    rw [show 0 * 65 = 0 from rfl] at h
    rw [show 1 * 65 = 65 from rfl] at h2
    rw [h]
    cases hb : slotOf g 65 with
    | none => rfl
    | some y =>
      have := h2 y hb
      unfold best
      dsimp only
      rw [if_neg (by omega)]
  · have e2 : (q + 1) % 2 = 0 := by omega
    rw [e] at h
    rw [e2] at h2
    rw [show 1 * 65 = 65 from rfl] at h
    rw [show 0 * 65 = 0 from rfl] at h2
    rw [h]
    cases hb : slotOf g 0 with
    | none => rfl
    | some y =>
      have := h2 y hb
      unfold best
      dsimp only
      rw [if_pos (by omega)]
theorem pick_none (g : Nat → ByteArray) (q : Nat) (h : slotOf g (q % 2 * 65) = none) (h2 : slotOf g ((q + 1) % 2 * 65) = none) : best (slotOf g 0) (slotOf g 65) = none := by
  rcases Nat.mod_two_eq_zero_or_one q with e | e
  · have e2 : (q + 1) % 2 = 1 := by omega
    rw [e] at h
    rw [e2] at h2
    rw [show 0 * 65 = 0 from rfl] at h
    rw [show 1 * 65 = 65 from rfl] at h2
    rw [h, h2]
    rfl
  · have e2 : (q + 1) % 2 = 0 := by omega
    rw [e] at h
    rw [e2] at h2
    rw [show 1 * 65 = 65 from rfl] at h
    rw [show 0 * 65 = 0 from rfl] at h2
    rw [h, h2]
    rfl
/-- A whole plan, run. -/
def put (d : List ByteArray) (q : Nat) (s : ByteArray) : List ByteArray := ran d (plan q s) (blocks s + 2) 0
theorem put_run (d : List ByteArray) (hd : fine d) (q : Nat) (s : ByteArray) (hs : s.size ≤ 4096) (K : Nat) (hK : 1000 ≤ K) : portageref17_Run.f K d (plan q s) ((plan q s).length : Int) 0 = some (put d q s, 0) := by
  have hb : blocks s ≤ 64 := by unfold blocks; omega
  have hl := plan_length q s
  have := ref_ok d (plan q s) (blocks s + 2) 0 hd (plan_fine q s hs) (by omega) (by omega) (by omega) (.inl rfl) K (by omega)
  rw [hl]
  exact this
theorem put_fine (d : List ByteArray) (hd : fine d) (q : Nat) (s : ByteArray) (hs : s.size ≤ 4096) : fine (put d q s) := fine_ran hd (plan_fine q s hs) (by omega)
theorem put_slots (d : List ByteArray) (hd : fine d) (q : Nat) (h1 : 1 ≤ q) (h2 : q ≤ 1048576) (s : ByteArray) (hs : s.size ≤ 4096) : slotOf (blkOf (put d q s)) ((q + 1) % 2 * 65) = slotOf (blkOf d) ((q + 1) % 2 * 65) ∧ slotOf (blkOf (put d q s)) (q % 2 * 65) = some (q, s) := by
  have := cut_plan d hd q h1 h2 s hs (blocks s + 2) 0 (Nat.le_refl _) (by omega)
  rw [if_pos (.inl rfl)] at this
  exact this
theorem text_l0 (c : Int) (n : Nat) (hn : n ≤ 100000) : ∀ (d i : Nat), i + d = n → ∀ (l : List Int), l.length = n → ∀ K, d + 1 ≤ K → ∃ t, portagelaw18_text.l0 K (n : Int) c l (i : Int) = some t ∧ t.size = n
  | 0, i, hi, l, hl, K, hK => by
    obtain ⟨m, rfl⟩ : ∃ m, K = m + 1 := ⟨K - 1, by omega⟩
    refine ⟨_, by rw [portagelaw18_text.l0, if_neg (by omega)], ?_⟩
    rw [strOfNums_size, hl]
  | d + 1, i, hi, l, hl, K, hK => by
    obtain ⟨m, rfl⟩ : ∃ m, K = m + 1 := ⟨K - 1, by omega⟩
    have hw : wrap64 ((i : Int) + 1) = ((i + 1 : Nat) : Int) := by unfold wrap64; omega
    obtain ⟨t, h1, h2⟩ := text_l0 c n hn d (i + 1) (by omega) (l.set i ((c + ((Int.tmod (i : Int) 13) % 256)) % 256)) (by rw [List.length_set]; exact hl) m (by omega)
    refine ⟨t, ?_, h2⟩
    rw [portagelaw18_text.l0, if_pos (by omega), if_pos (by omega), if_pos (by omega), hw, Int.toNat_natCast]
    exact h1
theorem text_size (c : Int) (n : Nat) (hn : n ≤ 100000) (K : Nat) (hK : n + 1 ≤ K) : ∃ t, portagelaw18_text.f K (n : Int) c = some t ∧ t.size = n := by
  unfold portagelaw18_text.f
  rw [if_pos (by omega), if_pos (by omega), Int.toNat_natCast]
  exact text_l0 c n hn n 0 (by omega) _ List.length_replicate K hK
theorem tmod_nat (a : Int) (n : Nat) (h0 : 0 < n) (hn : n ≤ 1099511627776) : ∃ k : Nat, k < n ∧ wrap64 (Int.tmod (IntKind.u64.wrap a) (n : Int)) = (k : Int) := by
  have hu : IntKind.u64.wrap a = a % 18446744073709551616 := rfl
  rw [hu, Int.tmod_eq_emod_of_nonneg (by omega)]
  have h1 := Int.emod_nonneg (a % 18446744073709551616) (show (n : Int) ≠ 0 by omega)
  have h2 := Int.emod_lt_of_pos (a % 18446744073709551616) (show (0 : Int) < (n : Int) by omega)
  refine ⟨(a % 18446744073709551616 % (n : Int)).toNat, by omega, ?_⟩
  unfold wrap64
  omega
def hello : ByteArray := ⟨#[104, 101, 108, 108, 111]⟩
theorem find_nd (K : Nat) (hK : 200 ≤ K) : slot_Find.f K nd = some (0, (⟨#[]⟩ : ByteArray), 1801) := by
  rw [find_eq nd fine_nd K (by omega), pick_none (blkOf nd) 0 (nd_none _ (by omega)) (nd_none _ (by omega))]
theorem awake_eq (K : Nat) (hK : 1000 ≤ K) : portagelaw18_awake.f K = some true := by
  have hs : hello.size = 5 := rfl
  have hb : blocks hello = 1 := rfl
  have p1 := plan_eq 1 (by omega) (by omega) hello (by omega) K (by omega)
  have l1 := plan_length 1 hello
  have r1 := put_run nd fine_nd 1 hello (by omega) K hK
  have f1 := put_fine nd fine_nd 1 hello (by omega)
  obtain ⟨s1, s2⟩ := put_slots nd fine_nd 1 (by omega) (by omega) hello (by omega)
  have g1 := find_eq (put nd 1 hello) f1 K (by omega)
  rw [pick (blkOf (put nd 1 hello)) 1 (1, hello) s2 (fun y hy => by
    rw [s1, nd_none _ (by omega)] at hy
    exact absurd hy (by simp))] at g1
  have e0 : rd_T42 (plan 1 hello) 0 = ⟨65, blk 0⟩ := rfl
  unfold portagelaw18_awake.f
  change ((slot_Plan.f K ((1 : Nat) : Int) hello).bind _) = _
  rw [p1, Option.bind_some, newdisk_eq K (by omega), Option.bind_some]
  dsimp only
  change ((portageref17_Run.f K nd (plan 1 hello) ((plan 1 hello).length : Int) 0).bind _) = _
  rw [r1, Option.bind_some]
  dsimp only
  rw [g1, Option.bind_some]
  dsimp only
  rw [Option.bind_some]
  change ((slot_Find.f K nd).bind _) = _
  rw [find_nd K (by omega), Option.bind_some, find_bad [] (by decide) rfl K (by show 0 + 1 ≤ K; omega), Option.bind_some, plan_bad 0 _ (.inl (by decide)) K, Option.bind_some]
  unfold portagelaw0_Num.f
  dsimp only
  rw [if_pos (by omega), Option.bind_some, if_pos rfl, if_pos (by omega), e0, if_pos rfl, if_pos rfl, if_pos (by decide), if_pos (by decide +kernel), Option.bind_some, if_pos rfl, Option.bind_some, if_pos rfl, Option.bind_some, if_pos rfl, Option.bind_some]
  rfl
end Go.Proofs.Ytdccnjinehcenaa.LF
