/- The plain law of portagelaw18.SlotCuts: behind a plan that is cut and torn anywhere the last image is found, or the one ahead of it. -/
import Derived.Test.YtdccnjinehcenaaDiskPL
import Derived.Test.YtdccnjinehcenaaDiskML
import Derived.Test.YtdccnjinehcenaaRefDL
import Derived.Test.YtdccnjinehcenaaLowLL
import Derived.Test.YtdccnjinehcenaaSlotLL
import Derived.Test.YtdccnjinehcenaaSlotPL
import Derived.Test.YtdccnjinehcenaaSlotAL
import Derived.Test.YtdccnjinehcenaaL9
namespace Go.Proofs.Ytdccnjinehcenaa.Pure
set_option linter.unusedVariables false
set_option linter.unusedSimpArgs false
open Go.RowKit Go.Proofs.Ytdccnjinehcenaa.L Go.Proofs.YtdccnjinehcenaaW.PrintWords Go.Proofs.YtdccnjinehcenaaW.PrintLast Go.Proofs.YtdccnjinehcenaaW.PrintMore
/-- What a disk holds behind i images, the last one was. -/
def Inv (d : List ByteArray) (i : Nat) (was : ByteArray) : Prop :=
  fine d ∧ (i = 0 → slotOf (blkOf d) 0 = none ∧ slotOf (blkOf d) 65 = none) ∧ (0 < i → slotOf (blkOf d) (i % 2 * 65) = some (i, was) ∧ ∀ y, slotOf (blkOf d) ((i + 1) % 2 * 65) = some y → y.1 < i)
theorem inv_other {d : List ByteArray} {i : Nat} {was : ByteArray} (h : Inv d i was) (y : Nat × ByteArray) (hy : slotOf (blkOf d) ((i + 1) % 2 * 65) = some y) : y.1 < i ∧ 0 < i := by
  by_cases h0 : i = 0
  · obtain ⟨a, b⟩ := h.2.1 h0
    subst h0
    rw [show (0 + 1) % 2 * 65 = 65 from rfl, b] at hy
    exact absurd hy (by simp)
  · exact ⟨(h.2.2 (by omega)).2 y hy, by omega⟩
/-- A whole plan more. -/
theorem inv_put {d : List ByteArray} {i : Nat} {was s : ByteArray} (h : Inv d i was) (hi : i ≤ 1000) (hs : s.size ≤ 4096) : Inv (put d (i + 1) s) (i + 1) s := by
  obtain ⟨s1, s2⟩ := put_slots d h.1 (i + 1) (by omega) (by omega) s hs
  refine ⟨put_fine d h.1 (i + 1) s hs, fun h0 => absurd h0 (by omega), fun _ => ⟨s2, fun y hy => ?_⟩⟩
  rw [s1] at hy
  have e : (i + 1 + 1) % 2 * 65 = i % 2 * 65 := by omega
  rw [e] at hy
  by_cases h0 : i = 0
  · obtain ⟨a, b⟩ := h.2.1 h0
    subst h0
    rw [show 0 % 2 * 65 = 0 from rfl, a] at hy
    exact absurd hy (by simp)
  · rw [(h.2.2 (by omega)).1] at hy
    obtain rfl := Option.some.inj hy
    exact Nat.lt_succ_self i
/-- What is found behind a plan that is cut. -/
theorem found (d : List ByteArray) (i : Nat) (was s : ByteArray) (h : Inv d i was) (hi : i ≤ 1000) (hs : s.size ≤ 4096) (k t : Nat) (hk : k ≤ blocks s + 2) (ht : t ≤ 64) (K : Nat) (hK : 200 ≤ K) :
    slot_Find.f K (ran d (plan (i + 1) s) k t) = some (if k = blocks s + 2 ∨ k = blocks s + 1 ∧ t = 64 then (((i + 1 : Nat) : Int), s, 0) else if i = 0 then (0, (⟨#[]⟩ : ByteArray), 1801) else ((i : Int), was, 0)) := by
  obtain ⟨s1, s2⟩ := cut_plan d h.1 (i + 1) (by omega) (by omega) s hs k t hk ht
  have e : (i + 1 + 1) % 2 * 65 = i % 2 * 65 := by omega
  rw [e] at s1
  have hf := fine_ran (n := k) (t := t) h.1 (plan_fine (i + 1) s hs) ht
  rw [find_eq _ hf K (by omega)]
  by_cases hw : k = blocks s + 2 ∨ k = blocks s + 1 ∧ t = 64
  · rw [if_pos hw] at s2 ⊢
    rw [pick _ (i + 1) (i + 1, s) s2 (fun y hy => by
      rw [e, s1] at hy
      by_cases h0 : i = 0
      · obtain ⟨a, b⟩ := h.2.1 h0
        subst h0
        rw [show 0 % 2 * 65 = 0 from rfl, a] at hy
        exact absurd hy (by simp)
      · rw [(h.2.2 (by omega)).1] at hy
        obtain rfl := Option.some.inj hy
        exact Nat.lt_succ_self i)]
  · rw [if_neg hw] at s2 ⊢
    have old : ∀ y, slotOf (blkOf (ran d (plan (i + 1) s) k t)) ((i + 1) % 2 * 65) = some y → y.1 < i ∧ 0 < i := fun y hy => by
      rw [s2] at hy
      by_cases hz : k = 0 ∧ t = 0
      · rw [if_pos hz] at hy
        exact inv_other h y hy
      · rw [if_neg hz] at hy
        exact absurd hy (by simp)
    by_cases h0 : i = 0
    · rw [if_pos h0]
      have n2 : slotOf (blkOf (ran d (plan (i + 1) s) k t)) ((i + 1) % 2 * 65) = none := by
        cases hq : slotOf (blkOf (ran d (plan (i + 1) s) k t)) ((i + 1) % 2 * 65) with
        | none => rfl
        | some y => have := (old y hq).2; omega
      have n1 : slotOf (blkOf (ran d (plan (i + 1) s) k t)) (i % 2 * 65) = none := by
        rw [s1]
        obtain ⟨a, b⟩ := h.2.1 h0
        subst h0
        exact a
      rw [pick_none _ i n1 n2]
    · rw [if_neg h0]
      obtain ⟨a, b⟩ := h.2.2 (by omega)
      rw [pick _ i (i, was) (by rw [s1]; exact a) (fun y hy => (old y hy).1)]
theorem count_eq (z : Nat) (hz : z ≤ 4096) : wrap64 (2 + wrap64 (Int.tdiv (wrap64 (wrap64 ((z : Int) + 64) - 1)) 64)) = (((z + 63) / 64 + 2 : Nat) : Int) := by
  have e1 : wrap64 (wrap64 ((z : Int) + 64) - 1) = ((z + 63 : Nat) : Int) := by unfold wrap64; omega
  rw [e1, Int.tdiv_eq_ediv_of_nonneg (by omega)]
  unfold wrap64
  omega
theorem j4_eq (was s : ByteArray) (i : Nat) (hi : i ≤ 1000) (b : Bool) (r : Int × ByteArray × Int) (hr : r = if b = true then (((i + 1 : Nat) : Int), s, 0) else if i = 0 then (0, (⟨#[]⟩ : ByteArray), 1801) else ((i : Int), was, 0)) (K : Nat) (hK : 1 ≤ K) :
    portagelaw18_SlotCuts.j4 K was (i : Int) (i : Int) s 0 r.1 r.2.1 r.2.2 b = some true := by
  obtain ⟨m, rfl⟩ : ∃ m, K = m + 1 := ⟨K - 1, by omega⟩
  have hw : wrap64 ((i : Int) + 1) = ((i + 1 : Nat) : Int) := by unfold wrap64; omega
  rw [portagelaw18_SlotCuts.j4, if_pos rfl]
  unfold portagelaw0_Num.f
  cases b with
  | true =>
    rw [if_pos rfl] at hr
    subst hr
    dsimp only
    rw [if_pos rfl, Option.bind_some, if_pos rfl, hw, if_pos rfl]
    simp
  | false =>
    rw [if_neg (by decide)] at hr
    rw [if_neg (by decide)]
    by_cases h0 : i = 0
    · rw [if_pos h0] at hr
      subst hr
      dsimp only
      rw [if_pos (by omega), Option.bind_some]
      rfl
    · rw [if_neg h0] at hr
      subst hr
      dsimp only
      rw [if_neg (by omega), Option.bind_some, if_pos rfl, if_pos rfl]
      simp
theorem j3_eq (d : List ByteArray) (i : Nat) (was s : ByteArray) (h : Inv d i was) (hi : i ≤ 1000) (hs : s.size ≤ 4096) (k t : Nat) (hk : k ≤ blocks s + 2) (ht : t ≤ 64) (hkt : t = 0 ∨ k < blocks s + 2) (K : Nat) (hK : 1100 ≤ K) :
    portagelaw18_SlotCuts.j3 K d was (i : Int) (i : Int) s (plan (i + 1) s) (k : Int) (t : Int) = some true := by
  obtain ⟨m, rfl⟩ : ∃ m, K = m + 1 := ⟨K - 1, by omega⟩
  have hb : blocks s ≤ 64 := by unfold blocks; omega
  have hl := plan_length (i + 1) s
  have r := ref_ok d (plan (i + 1) s) k t h.1 (plan_fine (i + 1) s hs) (by omega) (by omega) ht (by omega) m (by omega)
  have f := found d i was s h hi hs k t hk ht m (by omega)
  have hw : wrap64 (((plan (i + 1) s).length : Int) - 1) = ((blocks s + 1 : Nat) : Int) := by rw [hl]; clear f r hl; unfold wrap64; omega
  rw [portagelaw18_SlotCuts.j3, r, Option.bind_some]
  dsimp only
  rw [f, Option.bind_some, hw, hl]
  by_cases h2 : k = blocks s + 2
  · rw [if_pos (by omega), if_pos (.inl h2)]
    exact j4_eq was s i hi true _ rfl m (by omega)
  · rw [if_neg (by omega)]
    by_cases h1 : k = blocks s + 1
    · rw [if_pos (by omega)]
      by_cases h64 : t = 64
      · rw [if_pos (.inr ⟨h1, h64⟩), show ((t : Int) == 64) = true from beq_iff_eq.mpr (by omega)]
        exact j4_eq was s i hi true _ rfl m (by omega)
      · rw [if_neg (by omega), show ((t : Int) == 64) = false from beq_eq_false_iff_ne.mpr (by omega)]
        exact j4_eq was s i hi false _ rfl m (by omega)
    · rw [if_neg (by omega), if_neg (by omega)]
      exact j4_eq was s i hi false _ rfl m (by omega)
theorem wrap_cnt (b : Nat) (hb : b ≤ 64) : IntKind.u64.wrap (wrap64 (((b + 2 : Nat) : Int) + 1)) = ((b + 3 : Nat) : Int) := by
  have : wrap64 (((b + 2 : Nat) : Int) + 1) = ((b + 3 : Nat) : Int) := by unfold wrap64; omega
  rw [this]
  show (((b + 3 : Nat) : Int)) % 18446744073709551616 = _
  omega
theorem j2_last (l : List Int) (a1 a2 : Int) (d : List ByteArray) (i : Nat) (was s : ByteArray) (h : Inv d i was) (hi : i ≤ 5) (hs : s.size ≤ 4096) (hlast : (i : Int) = mn (l.length : Int) 5 - 1) (m : Nat) (hm : 1100 ≤ m) :
    portagelaw18_SlotCuts.j2 (m + 1) l a1 a2 d was (i : Int) (i : Int) s (plan (i + 1) s) false = some true := by
  have hb : blocks s ≤ 64 := by unfold blocks; omega
  have hi2 : i ≤ 1000 := by omega
  obtain ⟨k, hk, ek⟩ := tmod_nat a1 (blocks s + 3) (by omega) (by omega)
  obtain ⟨t, ht, et⟩ := tmod_nat a2 65 (by decide) (by decide)
  have hk2 : k ≤ blocks s + 2 := by omega
  have ht2 : t ≤ 64 := by omega
  have hcase : ((k : Int) = ((blocks s + 2 : Nat) : Int)) ∨ (¬ (k : Int) = ((blocks s + 2 : Nat) : Int) ∧ k < blocks s + 2) := by omega
  have hne : ¬ ((blocks s + 3 : Nat) : Int) = 0 := by omega
  replace et : wrap64 (Int.tmod (IntKind.u64.wrap a2) 65) = (t : Int) := et
  rw [portagelaw18_SlotCuts.j2, if_neg (by decide), if_pos hlast, plan_length, wrap_cnt _ hb, ek, et, if_neg hne]
  rcases hcase with hkk | ⟨hkk, hlt⟩
  · rw [if_pos hkk]
    exact j3_eq d i was s h hi2 hs k 0 hk2 (by decide) (.inl rfl) m hm
  · rw [if_neg hkk]
    exact j3_eq d i was s h hi2 hs k t hk2 ht2 (.inr hlt) m hm
theorem l0_eq (l : List Int) (a1 a2 : Int) : ∀ (q i : Nat), i + q = 6 → ∀ (d : List ByteArray) (was : ByteArray), Inv d i was → ∀ K, 4200 + 10 * q ≤ K →
    portagelaw18_SlotCuts.l0 K l a1 a2 d was (i : Int) (i : Int) = some true
  | 0, i, hi, d, was, h, K, hK => by
    obtain ⟨m, rfl⟩ : ∃ m, K = m + 1 + 1 := ⟨K - 2, by omega⟩
    rw [portagelaw18_SlotCuts.l0]
    have j : portagelaw18_SlotCuts.j1 (m + 1) l a1 a2 d was (i : Int) (i : Int) false = some true := by rw [portagelaw18_SlotCuts.j1, if_neg (by decide)]
    by_cases hl : (i : Int) < (l.length : Int)
    · rw [if_pos hl, decide_eq_false (by omega)]
      exact j
    · rw [if_neg hl]
      exact j
  | q + 1, i, hi, d, was, h, K, hK => by
    obtain ⟨m, rfl⟩ : ∃ m, K = m + 1 + 1 + 1 := ⟨K - 3, by omega⟩
    have j : portagelaw18_SlotCuts.j1 (m + 1 + 1) l a1 a2 d was (i : Int) (i : Int) false = some true := by rw [portagelaw18_SlotCuts.j1, if_neg (by decide)]
    rw [portagelaw18_SlotCuts.l0]
    by_cases hl : (i : Int) < (l.length : Int)
    · rw [if_pos hl]
      by_cases h5 : (i : Int) < 5
      · rw [decide_eq_true h5]
        obtain ⟨n, hn, en⟩ := tmod_nat (rd l (i : Int)) 4097 (by decide) (by decide)
        replace en : wrap64 (Int.tmod (IntKind.u64.wrap (rd l (i : Int))) 4097) = (n : Int) := en
        have hw : wrap64 ((i : Int) + 1) = ((i + 1 : Nat) : Int) := by clear en; unfold wrap64; omega
        have hi5 : i ≤ 5 := by omega
        have hm11 : 1100 ≤ m := by omega
        obtain ⟨s, hs1, hs2⟩ := text_size ((i : Int) % 256) n (by omega) (m + 1) (by omega)
        have hs96 : s.size ≤ 4096 := by omega
        have p1 := plan_eq (i + 1) (by omega) (by omega) s (by omega) (m + 1) (by omega)
        have hcnt := count_eq s.size (by omega)
        have hlen := plan_length (i + 1) s
        have hb : blocks s ≤ 64 := by unfold blocks; omega
        have hbs : (s.size + 63) / 64 = blocks s := rfl
        rw [hbs] at hcnt
        rw [portagelaw18_SlotCuts.j1, if_pos rfl, if_pos (by omega), if_pos hl, en]
        change ((portagelaw18_text.f (m + 1) (n : Int) ((i : Int) % 256)).bind _) = _
        rw [hs1, Option.bind_some, hw]
        change ((slot_Plan.f (m + 1) ((i + 1 : Nat) : Int) s).bind _) = _
        rw [p1, Option.bind_some]
        dsimp only
        unfold portagelaw0_Num.f
        rw [Option.bind_some, if_pos rfl, hcnt, hlen, show ((((blocks s + 2 : Nat) : Int)) != ((blocks s + 2 : Nat) : Int)) = false from bne_eq_false_iff_eq.mpr rfl, portagelaw18_SlotCuts.j2, if_neg (by decide)]
        by_cases hlast : (i : Int) = mn (l.length : Int) 5 - 1
        · rw [if_pos hlast]
          have := j2_last l a1 a2 d i was s h hi5 hs96 hlast m hm11
          rw [portagelaw18_SlotCuts.j2, if_neg (by decide), if_pos hlast] at this
          exact this
        · rw [if_neg hlast, put_run d h.1 (i + 1) s (by omega) m (by omega), Option.bind_some]
          dsimp only
          rw [if_pos rfl, hw]
          exact l0_eq l a1 a2 q (i + 1) (by omega) (put d (i + 1) s) s (inv_put h (by omega) (by omega)) m (by omega)
      · rw [decide_eq_false h5]
        exact j
    · rw [if_neg hl]
      exact j
theorem SlotCuts : portagelaw18_SlotCuts.Pure := by
  intro l a1 a2 _ _ _ _ _
  refine ⟨5000, ?_⟩
  unfold portagelaw18_SlotCuts.f
  rw [awake_eq 5000 (by omega), Option.bind_some, if_pos rfl, newdisk_eq 5000 (by omega), Option.bind_some]
  exact l0_eq l a1 a2 6 0 rfl nd _ ⟨fine_nd, fun _ => ⟨nd_none 0 (by omega), nd_none 65 (by omega)⟩, fun h => absurd h (by omega)⟩ 5000 (by omega)
end Go.Proofs.Ytdccnjinehcenaa.Pure
