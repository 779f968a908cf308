/- The plain law of portagelaw17.DiskCuts: a cut run has at each block what was there, or what was written, or, at one place, both. -/
import Derived.Test.YtdccnjinehcenaaDiskLD
import Derived.Test.YtdccnjinehcenaaDiskAD
import Derived.Test.YtdccnjinehcenaaDiskWD
import Derived.Test.YtdccnjinehcenaaD6
namespace Go.Proofs.Ytdccnjinehcenaa.Pure
set_option linter.unusedVariables false
set_option linter.unusedSimpArgs false
open Go.RowKit Go.Proofs.Ytdccnjinehcenaa.D Go.Proofs.YtdccnjinehcenaaW.PrintWords Go.Proofs.YtdccnjinehcenaaW.PrintLast Go.Proofs.YtdccnjinehcenaaW.PrintMore
theorem want_get (l : List Int) (n i : Nat) (h : i < 130) : rd (want l n) (i : Int) = (want l n)[i]'(by rw [want_length]; exact h) := by
  unfold rd
  rw [Int.toNat_natCast, List.getD_eq_getElem?_getD, List.getElem?_eq_getElem (by rw [want_length]; exact h)]
  rfl
theorem ran_get (l : List Int) (N kk t i : Nat) (hk : kk ≤ N) (hi : i < 130) :
    rdOf ByteArray.empty (ran (List.replicate 130 (blk 0)) (wr l N) kk t) (i : Int) = if kk < N ∧ atOf l kk = (i : Int) then (blk ((kk + 1 : Nat) : Int)).extract 0 t ++ (blk (rd (want l kk) (i : Int))).extract t (blk (rd (want l kk) (i : Int))).size else blk (rd (want l kk) (i : Int)) := by
  have hb : puts (List.replicate 130 (blk 0)) ((wr l N).take kk) = (want l kk).map blk := by rw [wr_take l N kk hk, puts_want]
  have hg : ∀ j : Nat, j < 130 → ((want l kk).map blk)[j]? = some (blk (rd (want l kk) (j : Int))) := fun j hj => by
    rw [List.getElem?_map, want_get l kk j hj, List.getElem?_eq_getElem (by rw [want_length]; exact hj)]
    rfl
  unfold ran
  have hr := atOf_range l kk
  by_cases h : kk < N
  · rw [dif_pos (by rw [wr_length]; exact h)]
    rw [hb, wr_get]
    unfold rdOf
    rw [Int.toNat_natCast]
    by_cases h2 : atOf l kk = (i : Int)
    · rw [if_pos ⟨h, h2⟩]
      have e : (atOf l kk).toNat = i := by omega
      have hgd : ((want l kk).map blk).getD i ByteArray.empty = blk (rd (want l kk) (i : Int)) := by rw [List.getD_eq_getElem?_getD, hg i hi]; rfl
      show List.getD (((want l kk).map blk).set (atOf l kk).toNat _) i _ = _
      rw [e, List.getD_eq_getElem?_getD, List.getElem?_set_self (by rw [List.length_map, want_length]; exact hi)]
      show (blk ((kk + 1 : Nat) : Int)).extract 0 t ++ (((want l kk).map blk).getD i ByteArray.empty).extract t (((want l kk).map blk).getD i ByteArray.empty).size = _
      rw [hgd]
    · rw [if_neg (fun h3 => h2 h3.2)]
      show List.getD (((want l kk).map blk).set (atOf l kk).toNat _) i _ = _
      rw [List.getD_eq_getElem?_getD, List.getElem?_set_ne (by omega), hg i hi]
      rfl
  · rw [dif_neg (by rw [wr_length]; exact h), hb, if_neg (fun h3 => h h3.1)]
    unfold rdOf
    rw [Int.toNat_natCast, List.getD_eq_getElem?_getD, hg i hi]
    rfl
theorem l2_eq (l : List Int) (N kk t : Nat) (hk : kk ≤ N) (ht : t ≤ 64) (hN : N ≤ 30) : ∀ (q i : Nat), i + q = 130 → ∀ K, 2 * q + 80 ≤ K →
    portagelaw17_DiskCuts.l2 K (wr l N) (kk : Int) (t : Int) (ran (List.replicate 130 (blk 0)) (wr l N) kk t) (want l kk) (i : Int) = some true
  | 0, i, hi, K, hK => by
    obtain ⟨m, rfl⟩ : ∃ m, K = m + 1 := ⟨K - 1, by omega⟩
    rw [portagelaw17_DiskCuts.l2, if_neg (by omega)]
  | q + 1, i, hi, K, hK => by
    obtain ⟨m, rfl⟩ : ∃ m, K = m + 1 + 1 := ⟨K - 2, by omega⟩
    have hw : wrap64 ((i : Int) + 1) = ((i + 1 : Nat) : Int) := by unfold wrap64; omega
    have ih := l2_eq l N kk t hk ht hN q (i + 1) (by omega) m (by omega)
    have hlen : (ran (List.replicate 130 (blk 0)) (wr l N) kk t).length = 130 := (fine_ran fine_new (wr_fine l N) ht).1
    have hj6 : ∀ b : Bool, b = decide (kk < N ∧ atOf l kk = (i : Int)) → portagelaw17_DiskCuts.j6 (m + 1) (wr l N) (kk : Int) (t : Int) (ran (List.replicate 130 (blk 0)) (wr l N) kk t) (want l kk) (i : Int) (blk (rd (want l kk) (i : Int))) b = some true := fun b hb => by
      have hg := ran_get l N kk t i hk (by omega)
      have hwk := (w1 kk (by omega)).2
      rw [portagelaw17_DiskCuts.j6]
      by_cases h : kk < N ∧ atOf l kk = (i : Int)
      · rw [if_pos h] at hg
        rw [hb, decide_eq_true h, if_pos rfl, hwk, full_eq _ _ (by omega), Option.bind_some, if_pos (by omega), if_pos (by rw [blk_size]; omega), if_pos (by rw [blk_size]; omega)]
        rw [if_pos (by rw [ByteArray.size_extract, ByteArray.size_extract, blk_size, blk_size]; omega), if_pos (by omega), if_pos (by omega), hg, Int.toNat_natCast, if_pos rfl, hw]
        exact ih
      · rw [if_neg h] at hg
        rw [hb, decide_eq_false h, if_neg (by decide), if_pos (by omega), if_pos (by omega), hg, if_pos rfl, hw]
        exact ih
    rw [portagelaw17_DiskCuts.l2, if_pos (by omega), if_pos (by omega), if_pos (by rw [want_length]; omega), full_eq _ _ (by omega), Option.bind_some, wr_length]
    by_cases h : kk < N
    · rw [if_pos (by omega), if_pos (by omega)]
      refine hj6 _ ?_
      rw [rdT_nat _ _ (by rw [wr_length]; exact h), wr_get]
      show (atOf l kk == (i : Int)) = _
      by_cases h2 : atOf l kk = (i : Int)
      · rw [decide_eq_true ⟨h, h2⟩, h2]; simp
      · rw [decide_eq_false (fun h3 : kk < N ∧ atOf l kk = (i : Int) => h2 h3.2)]
        exact beq_eq_false_iff_ne.mpr h2
    · rw [if_neg (by omega)]
      exact hj6 _ (by rw [decide_eq_false (fun h3 : kk < N ∧ atOf l kk = (i : Int) => h h3.1)])
theorem l1_eq (l : List Int) (N kk t : Nat) (hk : kk ≤ N) (hN : N ≤ 30) (a : List ByteArray) : ∀ (q i : Nat), i + q = kk → ∀ K, q + 1 ≤ K →
    portagelaw17_DiskCuts.l1 K (wr l N) (kk : Int) (t : Int) a (want l i) (i : Int) = portagelaw17_DiskCuts.l2 (K - q - 1) (wr l N) (kk : Int) (t : Int) a (want l kk) 0
  | 0, i, hi, K, hK => by
    obtain ⟨m, rfl⟩ : ∃ m, K = m + 1 := ⟨K - 1, by omega⟩
    rw [portagelaw17_DiskCuts.l1, if_neg (by omega), show i = kk from by omega, Nat.sub_zero, Nat.add_sub_cancel]
  | q + 1, i, hi, K, hK => by
    obtain ⟨m, rfl⟩ : ∃ m, K = m + 1 := ⟨K - 1, by omega⟩
    have hw := w1 i (by omega)
    have hr := atOf_range l i
    have e : rd_T42 (wr l N) (i : Int) = ⟨atOf l i, blk ((i + 1 : Nat) : Int)⟩ := by rw [rdT_nat _ _ (by rw [wr_length]; omega), wr_get]
    rw [portagelaw17_DiskCuts.l1, if_pos (by omega), if_pos (by omega), wr_length, if_pos (by omega), e]
    dsimp only
    rw [if_pos hr.1, if_pos (by rw [want_length]; omega), hw.1, hw.2]
    have := l1_eq l N kk t hk hN a q (i + 1) (by omega) m (by omega)
    rw [want] at this
    rw [this]
    congr 1
    omega
theorem l0_eq (l : List Int) (a1 a2 : Int) (d : List ByteArray) (n : Nat) (hn : n = min l.length 30) : ∀ (q i : Nat), i + q = n → ∀ K, q + 100 ≤ K →
    portagelaw17_DiskCuts.l0 K l a1 a2 d (wr l i) (i : Int) = portagelaw17_DiskCuts.j1 (K - q - 1) a1 a2 d (wr l n)
  | 0, i, hi, K, hK => by
    obtain ⟨m, rfl⟩ : ∃ m, K = m + 1 := ⟨K - 1, by omega⟩
    rw [portagelaw17_DiskCuts.l0, show i = n from by omega, Nat.sub_zero, Nat.add_sub_cancel]
    by_cases h : (n : Int) < (l.length : Int)
    · rw [if_pos h, if_neg (by omega)]
    · rw [if_neg h]
  | q + 1, i, hi, K, hK => by
    obtain ⟨m, rfl⟩ : ∃ m, K = m + 1 := ⟨K - 1, by omega⟩
    have hw := w1 i (by omega)
    rw [portagelaw17_DiskCuts.l0, if_pos (by omega), if_pos (by omega), if_pos (by omega), hw.2, full_eq _ _ (by omega), Option.bind_some, if_pos (by rw [wr_length]; omega), hw.1]
    have := l0_eq l a1 a2 d n hn q (i + 1) (by omega) m (by omega)
    rw [wr_succ] at this
    show portagelaw17_DiskCuts.l0 m l a1 a2 d (wr l i ++ [⟨atOf l i, blk ((i + 1 : Nat) : Int)⟩]) _ = _
    rw [this]
    congr 1
    omega
theorem DiskCuts : portagelaw17_DiskCuts.Pure := by
  intro l a1 a2 _ _ _ _ _
  refine ⟨1000, ?_⟩
  unfold portagelaw17_DiskCuts.f
  rw [awake_eq 1000 (by omega), Option.bind_some, if_pos rfl, new_eq, Option.bind_some]
  obtain ⟨n, hn⟩ : ∃ n, n = min l.length 30 := ⟨_, rfl⟩
  have h0 := l0_eq l a1 a2 (List.replicate 130 (blk 0)) n hn n 0 (by omega) 1000 (by omega)
  rw [show wr l 0 = [] from rfl, show ((0 : Nat) : Int) = 0 from rfl] at h0
  rw [h0]
  have hn30 : n ≤ 30 := by omega
  clear h0 hn
  obtain ⟨m, hm, hm2⟩ : ∃ m, 1000 - n - 1 = m + 1 + 1 + 1 ∧ 900 ≤ m := ⟨1000 - n - 4, by omega, by omega⟩
  rw [hm, portagelaw17_DiskCuts.j1, wr_length]
  have e1 : IntKind.u64.wrap (wrap64 ((n : Int) + 1)) = ((n + 1 : Nat) : Int) := by
    rw [(w1 n (by omega)).1]
    show (((n + 1 : Nat) : Int)) % 18446744073709551616 = _
    omega
  obtain ⟨kk, hkk, ek⟩ := tmod_nat a1 (n + 1) (by omega) (by omega)
  obtain ⟨tt, htt, et⟩ := tmod_nat a2 65 (by omega) (by omega)
  replace et : wrap64 (Int.tmod (IntKind.u64.wrap a2) 65) = (tt : Int) := et
  rw [e1, ek, et, if_neg (by omega)]
  have fin : ∀ t : Nat, t ≤ 64 → (t = 0 ∨ kk < n) → portagelaw17_DiskCuts.j2 (m + 1 + 1) (List.replicate 130 (blk 0)) (wr l n) (kk : Int) (t : Int) = some true := fun t ht h => by
    rw [portagelaw17_DiskCuts.j2, run_ok _ _ kk t fine_new (wr_fine l n) (by rw [wr_length]; omega) (by rw [wr_length]; omega) ht (by rw [wr_length]; exact h) (m + 1) (by rw [wr_length]; omega), Option.bind_some]
    unfold portagelaw0_Num.f
    rw [Option.bind_some, if_pos rfl]
    dsimp only
    rw [(fine_ran fine_new (wr_fine l n) ht).1, show ((((130 : Nat) : Int)) != 130) = false from rfl, portagelaw17_DiskCuts.j3, if_neg (by decide), if_pos (by decide)]
    have h1 := l1_eq l n kk t (by omega) hn30 (ran (List.replicate 130 (blk 0)) (wr l n) kk t) kk 0 (by omega) m (by omega)
    rw [want, show ((0 : Nat) : Int) = 0 from rfl] at h1
    rw [h1]
    exact l2_eq l n kk t (by omega) ht hn30 130 0 (by omega) _ (by omega)
  by_cases h : (kk : Int) = (n : Int)
  · rw [if_pos h]
    exact fin 0 (by omega) (.inl rfl)
  · rw [if_neg h]
    exact fin tt (by omega) (.inr (by omega))
end Go.Proofs.Ytdccnjinehcenaa.Pure
