/- Chapter 17: the document's own disks and runs. -/
import Derived.Test.YtdccnjinehcenaaDiskPLF
import Derived.Test.YtdccnjinehcenaaLF2
import Derived.Test.YtdccnjinehcenaaLF1
namespace Go.Proofs.Ytdccnjinehcenaa.LF
set_option linter.unusedVariables false
set_option linter.unusedSimpArgs false
open Go.RowKit Go.Proofs.YtdccnjinehcenaaW.PrintWords Go.Proofs.YtdccnjinehcenaaW.PrintLast Go.Proofs.YtdccnjinehcenaaW.PrintMore
theorem ref_may_l0 (l : List ByteArray) (hl : l.length ≤ 9000000000000000000) : ∀ (d i : Nat), i + d = l.length → ∀ K, d + 1 ≤ K → portageref17_DiskMay.l0 K l (i : Int) = some (if (l.drop i).any odd = true then false else ((l.length : Int) == 130))
  | 0, i, hi, K, hK => by
    obtain ⟨m, rfl⟩ : ∃ m, K = m + 1 := ⟨K - 1, by omega⟩
    rw [portageref17_DiskMay.l0, if_neg (by omega), List.drop_eq_nil_of_le (by omega)]
    rfl
  | d + 1, i, hi, K, hK => by
    obtain ⟨m, rfl⟩ : ∃ m, K = m + 1 := ⟨K - 1, by omega⟩
    have hw : wrap64 ((i : Int) + 1) = ((i + 1 : Nat) : Int) := by unfold wrap64; omega
    have hlt : i < l.length := by omega
    have ih := ref_may_l0 l hl d (i + 1) (by omega) m (by omega)
    rw [portageref17_DiskMay.l0, if_pos (by omega), if_pos (by omega), rdOf_nat _ _ _ hlt, List.drop_eq_getElem_cons hlt, List.any_cons, hw, ih]
    by_cases h : (l[i].size : Int) = 64
    · rw [if_pos h, show odd l[i] = false from bne_eq_false_iff_eq.mpr h, Bool.false_or]
    · rw [if_neg h, show odd l[i] = true from bne_iff_ne.mpr h, Bool.true_or, if_pos rfl]
theorem ref_may (l : List ByteArray) (hl : l.length ≤ 9000000000000000000) (K : Nat) (hK : l.length + 1 ≤ K) : portageref17_DiskMay.f K l = some (mayB l) := by
  unfold portageref17_DiskMay.f
  have := ref_may_l0 l hl l.length 0 (by omega) K hK
  rw [show ((0 : Nat) : Int) = 0 from rfl, List.drop_zero] at this
  rw [this]
  unfold mayB
  by_cases h : l.length = 130
  · rw [if_pos h, show ((l.length : Int) == 130) = true from beq_iff_eq.mpr (by omega)]
    cases l.any odd <;> rfl
  · rw [if_neg h, show ((l.length : Int) == 130) = false from beq_eq_false_iff_ne.mpr (by omega)]
    cases l.any odd <;> rfl
theorem ref_l1 (ws : List S42) (n t : Nat) (hws : ws.any badw = false) (hl : ws.length ≤ 9000000000000000000) (hn : n ≤ ws.length) (ht : t ≤ 64) : ∀ (q i : Nat), i + q = n → ∀ K, q + 1 ≤ K → ∀ d : List ByteArray, fine d →
    portageref17_Run.l1 K ws (n : Int) (t : Int) d (i : Int) = some (ran (puts d ((ws.take n).drop i)) (ws.drop n) 0 t, 0)
  | 0, i, hi, K, hK, d, hd => by
    obtain ⟨m, rfl⟩ : ∃ m, K = m + 1 := ⟨K - 1, by omega⟩
    have e0 : (ws.take n).drop i = [] := List.drop_eq_nil_of_le (by rw [List.length_take]; omega)
    rw [portageref17_Run.l1, if_neg (by omega), e0, puts_nil]
    by_cases h : n < ws.length
    · have hr : rd_T42 ws (n : Int) = ws[n] := rdT_nat _ _ h
      have hb := badw_false (any_false hws (List.getElem_mem h))
      have h0 : (ws.drop n)[0]'(by rw [List.length_drop]; omega) = ws[n] := by rw [List.getElem_drop]; rfl
      rw [if_pos (by omega), if_pos (by omega), if_pos (by omega), hr, if_pos (by omega), if_pos hb.1, if_pos (by have := hd.1; omega)]
      unfold rdOf
      have hg := fine_get hd (i := ws[n].f0.toNat) (by omega)
      have hs := torn_size hb.2.2 hg ht
      rw [ByteArray.size_append] at hs
      rw [if_pos (by omega), Int.toNat_natCast, if_pos (by omega)]
      unfold ran
      rw [dif_pos (by rw [List.length_drop]; omega), h0]
      rfl
    · rw [if_neg (by omega)]
      unfold ran
      rw [dif_neg (by rw [List.length_drop]; omega)]
      rfl
  | q + 1, i, hi, K, hK, d, hd => by
    obtain ⟨m, rfl⟩ : ∃ m, K = m + 1 := ⟨K - 1, by omega⟩
    have hw : wrap64 ((i : Int) + 1) = ((i + 1 : Nat) : Int) := by unfold wrap64; omega
    have hlt : i < (ws.take n).length := by rw [List.length_take]; omega
    have hr : rd_T42 ws (i : Int) = (ws.take n)[i] := by rw [rdT_nat _ _ (by omega), List.getElem_take]
    have hb := badw_false (any_false (any_take hws n) (List.getElem_mem hlt))
    rw [portageref17_Run.l1, if_pos (by omega), if_pos (by omega), if_pos (by omega), hr, if_pos hb.1, if_pos (by have := hd.1; omega), hw, ref_l1 ws n t hws hl hn ht q (i + 1) (by omega) m (by omega) _ (fine_set hd _ hb.2.2), List.drop_eq_getElem_cons hlt, puts_cons]
theorem ref_l0_ok (d : List ByteArray) (ws : List S42) (n t : Int) (hws : ws.any badw = false) (hl : ws.length ≤ 9000000000000000000) (hd : d.length < 8796093022208) : ∀ (q i : Nat), i + q = ws.length → ∀ K, q + 1 ≤ K →
    portageref17_Run.l0 K d ws n t (i : Int) = portageref17_Run.l1 (K - q - 1) ws n t d 0
  | 0, i, hi, K, hK => by
    obtain ⟨m, rfl⟩ : ∃ m, K = m + 1 := ⟨K - 1, by omega⟩
    rw [portageref17_Run.l0, if_neg (by omega), Option.bind_some, List.length_nil, if_pos (by omega), List.nil_append, Nat.sub_zero, Nat.add_sub_cancel]
  | q + 1, i, hi, K, hK => by
    obtain ⟨m, rfl⟩ : ∃ m, K = m + 1 := ⟨K - 1, by omega⟩
    have hw : wrap64 ((i : Int) + 1) = ((i + 1 : Nat) : Int) := by unfold wrap64; omega
    have hlt : i < ws.length := by omega
    have hb := badw_false (any_false hws (List.getElem_mem hlt))
    rw [portageref17_Run.l0, if_pos (by omega), if_pos (by omega), rdT_nat _ _ hlt, if_neg (by omega), if_neg (by omega), if_pos (by omega), hw, ref_l0_ok d ws n t hws hl hd q (i + 1) (by omega) m (by omega)]
    congr 1
    omega
theorem ref_l0_bad (d : List ByteArray) (ws : List S42) (n t : Int) (hl : ws.length ≤ 9000000000000000000) : ∀ (q i : Nat), i + q = ws.length → (ws.drop i).any badw = true → ∀ K, q + 1 ≤ K →
    portageref17_Run.l0 K d ws n t (i : Int) = some ([], 1700)
  | 0, i, hi, h, K, hK => by
    rw [List.drop_eq_nil_of_le (by omega)] at h
    exact absurd h (by simp)
  | q + 1, i, hi, h, K, hK => by
    obtain ⟨m, rfl⟩ : ∃ m, K = m + 1 := ⟨K - 1, by omega⟩
    have hw : wrap64 ((i : Int) + 1) = ((i + 1 : Nat) : Int) := by unfold wrap64; omega
    have hlt : i < ws.length := by omega
    rw [List.drop_eq_getElem_cons hlt, List.any_cons] at h
    rw [portageref17_Run.l0, if_pos (by omega), if_pos (by omega), rdT_nat _ _ hlt]
    by_cases h1 : ws[i].f0 < 0
    · rw [if_pos h1]
    · rw [if_neg h1]
      by_cases h2 : ws[i].f0 ≥ 130
      · rw [if_pos h2]
      · rw [if_neg h2]
        by_cases h3 : (ws[i].f1.size : Int) = 64
        · have hb : badw ws[i] = false := by
            unfold badw
            rw [decide_eq_false h1, decide_eq_false h2, show ((ws[i].f1.size : Int) != 64) = false from bne_eq_false_iff_eq.mpr h3]
            rfl
          rw [hb, Bool.false_or] at h
          rw [if_pos h3, hw]
          exact ref_l0_bad d ws n t hl q (i + 1) (by omega) h m (by omega)
        · rw [if_neg h3]
theorem ref_ok (d : List ByteArray) (ws : List S42) (n t : Nat) (hd : fine d) (hws : ws.any badw = false) (hl : ws.length ≤ 9000000000000000000) (hn : n ≤ ws.length) (ht : t ≤ 64) (h : t = 0 ∨ n < ws.length) (K : Nat) (hK : 2 * ws.length + 200 ≤ K) :
    portageref17_Run.f K d ws (n : Int) (t : Int) = some (ran d ws n t, 0) := by
  obtain ⟨m, rfl⟩ : ∃ m, K = m + 1 := ⟨K - 1, by omega⟩
  have j : portageref17_Run.j0 (m + 1) d ws (n : Int) (t : Int) false = some (ran d ws n t, 0) := by
    rw [portageref17_Run.j0, if_neg (by decide)]
    have h1 := ref_l0_ok d ws (n : Int) (t : Int) hws hl (by have := hd.1; omega) ws.length 0 (by omega) m (by omega)
    have h2 := ref_l1 ws n t hws hl hn ht n 0 (by omega) (m - ws.length - 1) (by omega) d hd
    rw [show ((0 : Nat) : Int) = 0 from rfl] at h1 h2
    rw [h1, h2, List.drop_zero, ran_eq d ws n t hn]
  unfold portageref17_Run.f
  rw [ref_may d (by have := hd.1; omega) _ (by have := hd.1; omega), Option.bind_some, mayB_true.mpr hd, if_pos rfl, if_neg (by omega), if_neg (by omega), if_neg (by omega), if_neg (by omega)]
  by_cases hn2 : (n : Int) = (ws.length : Int)
  · rw [if_pos hn2, show ((t : Int) != 0) = false from bne_eq_false_iff_eq.mpr (by omega)]
    exact j
  · rw [if_neg hn2]
    exact j
theorem ref_bad (d : List ByteArray) (ws : List S42) (n t : Int) (hl : ws.length ≤ 9000000000000000000) (hld : d.length ≤ 9000000000000000000) (h : mayB d = false ∨ ws.any badw = true ∨ n < 0 ∨ n > ws.length ∨ t < 0 ∨ t > 64 ∨ t > 0 ∧ n = ws.length) (K : Nat) (hK : ws.length + d.length + 3 ≤ K) :
    portageref17_Run.f K d ws n t = some ([], 1700) := by
  obtain ⟨m, rfl⟩ : ∃ m, K = m + 1 := ⟨K - 1, by omega⟩
  have j : portageref17_Run.j0 (m + 1) d ws n t true = some ([], 1700) := by rw [portageref17_Run.j0, if_pos rfl]
  have j2 : ws.any badw = true → portageref17_Run.j0 (m + 1) d ws n t false = some ([], 1700) := fun hb => by
    rw [portageref17_Run.j0, if_neg (by decide)]
    have := ref_l0_bad d ws n t hl ws.length 0 (by omega) (by rw [List.drop_zero]; exact hb) m (by omega)
    exact this
  unfold portageref17_Run.f
  rw [ref_may d hld _ (by omega), Option.bind_some]
  by_cases h1 : mayB d = true
  · rw [if_pos h1]
    by_cases h3 : n < 0
    · rw [if_pos h3]; exact j
    · rw [if_neg h3]
      by_cases h4 : n > ws.length
      · rw [if_pos h4]; exact j
      · rw [if_neg h4]
        by_cases h5 : t < 0
        · rw [if_pos h5]; exact j
        · rw [if_neg h5]
          by_cases h6 : t > 64
          · rw [if_pos h6]; exact j
          · rw [if_neg h6]
            by_cases h7 : n = (ws.length : Int)
            · rw [if_pos h7]
              by_cases h8 : t = 0
              · rw [show (t != 0) = false from bne_eq_false_iff_eq.mpr h8]
                refine j2 ?_
                rcases h with h | h | h | h | h | h | h
                · rw [h] at h1; exact absurd h1 (by simp)
                · exact h
                all_goals omega
              · rw [show (t != 0) = true from bne_iff_ne.mpr h8]
                exact j
            · rw [if_neg h7]
              refine j2 ?_
              rcases h with h | h | h | h | h | h | h
              · rw [h] at h1; exact absurd h1 (by simp)
              · exact h
              all_goals omega
  · rw [if_neg h1]; exact j
theorem zeros_eq : portageref17_zeros.f 64 = some (blk 0) := by
  unfold portageref17_zeros.f
  rw [if_pos (by decide), if_pos (by decide)]
  rfl
theorem newdisk_l0 : ∀ (d i : Nat), i + d = 130 → ∀ K, d + 1 ≤ K → portageref17_NewDisk.l0 K (List.replicate i (blk 0)) (i : Int) = some (List.replicate 130 (blk 0))
  | 0, i, hi, K, hK => by
    obtain ⟨m, rfl⟩ : ∃ m, K = m + 1 := ⟨K - 1, by omega⟩
    rw [portageref17_NewDisk.l0, if_neg (by omega), show i = 130 from by omega]
  | d + 1, i, hi, K, hK => by
    obtain ⟨m, rfl⟩ : ∃ m, K = m + 1 := ⟨K - 1, by omega⟩
    have hw : wrap64 ((i : Int) + 1) = ((i + 1 : Nat) : Int) := by unfold wrap64; omega
    rw [portageref17_NewDisk.l0, if_pos (by omega), zeros_eq, Option.bind_some, List.length_replicate, if_pos (by omega), hw]
    have := newdisk_l0 d (i + 1) (by omega) m (by omega)
    rw [List.replicate_succ'] at this
    exact this
theorem newdisk_eq (K : Nat) (hK : 131 ≤ K) : portageref17_NewDisk.f K = some (List.replicate 130 (blk 0)) := by
  unfold portageref17_NewDisk.f
  exact newdisk_l0 130 0 (by omega) K hK
end Go.Proofs.Ytdccnjinehcenaa.LF
