/- The plain law of portagelaw18.SlotTwo: of two images the one with the greater number is found, whichever was written first. -/
import Derived.Test.YtdccnjinehcenaaDiskPL
import Derived.Test.YtdccnjinehcenaaDiskML
import Derived.Test.YtdccnjinehcenaaRefDL
import Derived.Test.YtdccnjinehcenaaLowLL
import Derived.Test.YtdccnjinehcenaaSlotLL
import Derived.Test.YtdccnjinehcenaaSlotPL
import Derived.Test.YtdccnjinehcenaaSlotAL
import Derived.Test.YtdccnjinehcenaaL10
namespace Go.Proofs.Ytdccnjinehcenaa.Pure
set_option linter.unusedVariables false
set_option linter.unusedSimpArgs false
open Go.RowKit Go.Proofs.Ytdccnjinehcenaa.L Go.Proofs.YtdccnjinehcenaaW.PrintWords Go.Proofs.YtdccnjinehcenaaW.PrintLast Go.Proofs.YtdccnjinehcenaaW.PrintMore
/-- Where a plan writes. -/
theorem plan_at (q : Nat) (s : ByteArray) (hs : s.size ≤ 4096) (i : Nat) (h : i < (plan q s).length) : ((q % 2 * 65 : Nat) : Int) ≤ (rd_T42 (plan q s) (i : Int)).f0 ∧ (rd_T42 (plan q s) (i : Int)).f0 ≤ ((q % 2 * 65 + 64 : Nat) : Int) := by
  have hb : blocks s ≤ 64 := by unfold blocks; omega
  rw [rdT_nat _ _ h]
  have hm := List.getElem_mem h
  generalize (plan q s)[i] = w at hm
  unfold plan open_ chunks at hm
  rcases List.mem_append.mp hm with hm | hm
  · rcases List.mem_cons.mp hm with rfl | hm
    · exact ⟨Int.le_refl _, by show ((q % 2 * 65 : Nat) : Int) ≤ _; omega⟩
    · obtain ⟨j, hj, rfl⟩ := List.mem_map.mp hm
      have := List.mem_range.mp hj
      exact ⟨by show _ ≤ ((q % 2 * 65 + 1 + j : Nat) : Int); omega, by show ((q % 2 * 65 + 1 + j : Nat) : Int) ≤ _; omega⟩
  · rw [List.mem_singleton.mp hm]
    exact ⟨Int.le_refl _, by show ((q % 2 * 65 : Nat) : Int) ≤ _; omega⟩
theorem l1_eq (x3 : Bool) (x9 : Int) (x11 : ByteArray) (u v : List S42) (hv : v.length ≤ 1000) (i : Nat) (hi : i < u.length) (hne : ∀ j, j < v.length → ¬ (rd_T42 u (i : Int)).f0 = (rd_T42 v (j : Int)).f0) : ∀ (d j : Nat), j + d = v.length → ∀ K, d + 1 ≤ K →
    portagelaw18_SlotTwo.l1 K x3 x9 x11 u v (i : Int) (j : Int) = portagelaw18_SlotTwo.l0 (K - d - 1) x3 x9 x11 u v (wrap64 ((i : Int) + 1))
  | 0, j, hj, K, hK => by
    obtain ⟨m, rfl⟩ : ∃ m, K = m + 1 := ⟨K - 1, by omega⟩
    rw [portagelaw18_SlotTwo.l1, if_neg (by omega), Nat.sub_zero, Nat.add_sub_cancel]
  | d + 1, j, hj, K, hK => by
    obtain ⟨m, rfl⟩ : ∃ m, K = m + 1 := ⟨K - 1, by omega⟩
    have hw : wrap64 ((j : Int) + 1) = ((j + 1 : Nat) : Int) := by unfold wrap64; omega
    rw [portagelaw18_SlotTwo.l1, if_pos (by omega), if_pos (by omega), if_pos (by omega), if_pos (by omega), if_neg (hne j (by omega)), hw, l1_eq x3 x9 x11 u v hv i hi hne d (j + 1) (by omega) m (by omega)]
    congr 1
    omega
theorem l0_eq (x3 : Bool) (x9 : Int) (x11 : ByteArray) (u v : List S42) (hu : u.length ≤ 100) (hv : v.length ≤ 100) (hne : ∀ i j, i < u.length → j < v.length → ¬ (rd_T42 u (i : Int)).f0 = (rd_T42 v (j : Int)).f0) : ∀ (d i : Nat), i + d = u.length → ∀ K, d * 102 + 1 ≤ K →
    portagelaw18_SlotTwo.l0 K x3 x9 x11 u v (i : Int) = portagelaw18_SlotTwo.l0 (K - d * (v.length + 2)) x3 x9 x11 u v (u.length : Int)
  | 0, i, hi, K, hK => by rw [Nat.zero_mul, Nat.sub_zero, show i = u.length from by omega]
  | d + 1, i, hi, K, hK => by
    obtain ⟨m, rfl⟩ : ∃ m, K = m + 1 := ⟨K - 1, by omega⟩
    have hw : wrap64 ((i : Int) + 1) = ((i + 1 : Nat) : Int) := by unfold wrap64; omega
    have h1 := l1_eq x3 x9 x11 u v (by omega) i (by omega) (fun j hj => hne i j (by omega) hj) v.length 0 (by omega) m (by omega)
    rw [hw] at h1
    have h2 := l0_eq x3 x9 x11 u v hu hv hne d (i + 1) (by omega) (m - v.length - 1) (by omega)
    rw [portagelaw18_SlotTwo.l0, if_pos (by omega)]
    change portagelaw18_SlotTwo.l1 m x3 x9 x11 u v (i : Int) ((0 : Nat) : Int) = _
    rw [h1, h2]
    congr 1
    have : (d + 1) * (v.length + 2) = d * (v.length + 2) + (v.length + 2) := Nat.succ_mul _ _
    omega
theorem j3_eq (q : Nat) (h1 : 1 ≤ q) (h2 : q ≤ 1048575) (s t : ByteArray) (hs : s.size ≤ 4096) (ht : t.size ≤ 4096) (u v : List S42) (h : u = plan q s ∧ v = plan (q + 1) t ∨ u = plan (q + 1) t ∧ v = plan q s) (K : Nat) (hK : 1100 ≤ K) :
    portagelaw18_SlotTwo.j3 K (q : Int) t u v = some true := by
  obtain ⟨m, rfl⟩ : ∃ m, K = m + 1 := ⟨K - 1, by omega⟩
  have w1 : wrap64 ((q : Int) + 1) = ((q + 1 : Nat) : Int) := by unfold wrap64; omega
  have hgoal : ∀ d2 : List ByteArray, slot_Find.f m d2 = some (((q + 1 : Nat) : Int), t, 0) → ∀ d1 : List ByteArray, portageref17_Run.f m nd u (u.length : Int) 0 = some (d1, 0) → portageref17_Run.f m d1 v (v.length : Int) 0 = some (d2, 0) → portagelaw18_SlotTwo.j3 (m + 1) (q : Int) t u v = some true := fun d2 g d1 r1 r2 => by
    rw [portagelaw18_SlotTwo.j3, newdisk_eq m (by omega), Option.bind_some]
    change ((portageref17_Run.f m nd u (u.length : Int) 0).bind _) = _
    rw [r1, Option.bind_some]
    dsimp only
    rw [r2, Option.bind_some]
    dsimp only
    rw [g, Option.bind_some]
    dsimp only
    unfold portagelaw0_Num.f
    rw [if_pos rfl, if_pos rfl, Option.bind_some, if_pos rfl, w1, if_pos rfl]
    simp
  have n1 := nd_none ((q + 1) % 2 * 65) (by omega)
  have n2 := nd_none (q % 2 * 65) (by omega)
  have e2 : (q + 1 + 1) % 2 * 65 = q % 2 * 65 := by omega
  rcases h with ⟨rfl, rfl⟩ | ⟨rfl, rfl⟩
  · have f1 := put_fine nd fine_nd q s hs
    have f2 := put_fine (put nd q s) f1 (q + 1) t ht
    obtain ⟨s1, s2⟩ := put_slots nd fine_nd q h1 (by omega) s hs
    obtain ⟨s3, s4⟩ := put_slots (put nd q s) f1 (q + 1) (by omega) (by omega) t ht
    rw [e2, s2] at s3
    refine hgoal (put (put nd q s) (q + 1) t) ?_ (put nd q s) (put_run nd fine_nd q s hs m (by omega)) (put_run (put nd q s) f1 (q + 1) t ht m (by omega))
    rw [find_eq _ f2 m (by omega), pick _ (q + 1) (q + 1, t) s4 (fun y hy => by
      rw [e2, s3] at hy
      obtain rfl := Option.some.inj hy
      exact Nat.lt_succ_self q)]
  · have f1 := put_fine nd fine_nd (q + 1) t ht
    have f2 := put_fine (put nd (q + 1) t) f1 q s hs
    obtain ⟨s1, s2⟩ := put_slots nd fine_nd (q + 1) (by omega) (by omega) t ht
    obtain ⟨s3, s4⟩ := put_slots (put nd (q + 1) t) f1 q h1 (by omega) s hs
    rw [s2] at s3
    refine hgoal (put (put nd (q + 1) t) q s) ?_ (put nd (q + 1) t) (put_run nd fine_nd (q + 1) t ht m (by omega)) (put_run (put nd (q + 1) t) f1 q s hs m (by omega))
    rw [find_eq _ f2 m (by omega), pick _ (q + 1) (q + 1, t) s3 (fun y hy => by
      rw [e2, s4] at hy
      obtain rfl := Option.some.inj hy
      exact Nat.lt_succ_self q)]
theorem SlotTwo : portagelaw18_SlotTwo.Pure := by
  intro a0 a1 a2 a3 _ _ _
  refine ⟨20000, ?_⟩
  unfold portagelaw18_SlotTwo.f
  rw [awake_eq 20000 (by omega), Option.bind_some, if_pos rfl]
  obtain ⟨kk, hkk, ek⟩ := tmod_nat a0 1048575 (by decide) (by decide)
  obtain ⟨n1, hn1, e1⟩ := tmod_nat a1 4097 (by decide) (by decide)
  obtain ⟨n2, hn2, e2⟩ := tmod_nat a2 4097 (by decide) (by decide)
  replace ek : wrap64 (Int.tmod (IntKind.u64.wrap a0) 1048575) = (kk : Int) := ek
  replace e1 : wrap64 (Int.tmod (IntKind.u64.wrap a1) 4097) = (n1 : Int) := e1
  replace e2 : wrap64 (Int.tmod (IntKind.u64.wrap a2) 4097) = (n2 : Int) := e2
  rw [ek, e1, e2]
  clear ek e1 e2
  obtain ⟨q, hq⟩ : ∃ q, q = kk + 1 := ⟨_, rfl⟩
  have w1 : wrap64 (1 + (kk : Int)) = (q : Int) := by unfold wrap64; omega
  have w2 : wrap64 ((q : Int) + 1) = ((q + 1 : Nat) : Int) := by unfold wrap64; omega
  rw [w1, w2]
  obtain ⟨s, hs1, hs2⟩ := text_size 97 n1 (by omega) 20000 (by omega)
  obtain ⟨t, ht1, ht2⟩ := text_size 98 n2 (by omega) 20000 (by omega)
  have p1 := plan_eq q (by omega) (by omega) s (by omega) 20000 (by omega)
  have p2 := plan_eq (q + 1) (by omega) (by omega) t (by omega) 20000 (by omega)
  rw [hs1, Option.bind_some, ht1, Option.bind_some, p1, Option.bind_some, p2, Option.bind_some]
  unfold portagelaw0_Num.f
  dsimp only
  rw [Option.bind_some, if_pos rfl, Option.bind_some, show ((0 : Int) != 0) = false from rfl, portagelaw18_SlotTwo.j0, if_neg (by decide)]
  have l1 := plan_length q s
  have l2 := plan_length (q + 1) t
  have hb1 : blocks s ≤ 64 := by unfold blocks; omega
  have hb2 : blocks t ≤ 64 := by unfold blocks; omega
  have hne : ∀ i j, i < (plan q s).length → j < (plan (q + 1) t).length → ¬ (rd_T42 (plan q s) (i : Int)).f0 = (rd_T42 (plan (q + 1) t) (j : Int)).f0 := fun i j hi hj => by
    have := plan_at q s (by omega) i hi
    have := plan_at (q + 1) t (by omega) j hj
    omega
  have h0 := l0_eq a3 (q : Int) t (plan q s) (plan (q + 1) t) (by omega) (by omega) hne (plan q s).length 0 (by omega) 19999 (by omega)
  rw [show ((0 : Nat) : Int) = 0 from rfl] at h0
  rw [h0]
  have hmul : (plan q s).length * ((plan (q + 1) t).length + 2) ≤ 66 * 68 := Nat.mul_le_mul (by omega) (by omega)
  obtain ⟨m, hm, hm2⟩ : ∃ m, 19999 - (plan q s).length * ((plan (q + 1) t).length + 2) = m + 1 ∧ 1100 ≤ m := ⟨19999 - (plan q s).length * ((plan (q + 1) t).length + 2) - 1, by omega, by omega⟩
  rw [hm, portagelaw18_SlotTwo.l0, if_neg (by omega)]
  cases a3 with
  | true => rw [if_pos rfl]; exact j3_eq q (by omega) (by omega) s t (by omega) (by omega) _ _ (.inr ⟨rfl, rfl⟩) m hm2
  | false => rw [if_neg (by decide)]; exact j3_eq q (by omega) (by omega) s t (by omega) (by omega) _ _ (.inl ⟨rfl, rfl⟩) m hm2
end Go.Proofs.Ytdccnjinehcenaa.Pure
