/- The reference's heads and plans: as the program's. -/
import Derived.Test.YtdccnjinehcenaaDiskPLS
import Derived.Test.YtdccnjinehcenaaRefDLS
import Derived.Test.YtdccnjinehcenaaLowLLS
import Derived.Test.YtdccnjinehcenaaSlotLLS
import Derived.Test.YtdccnjinehcenaaSlotPLS
import Derived.Test.YtdccnjinehcenaaNumRLS
import Derived.Test.YtdccnjinehcenaaLS7
import Derived.Test.YtdccnjinehcenaaLS2
namespace Go.Proofs.Ytdccnjinehcenaa.LS
set_option linter.unusedVariables false
set_option linter.unusedSimpArgs false
open Go.RowKit Go.Proofs.YtdccnjinehcenaaW.PrintWords Go.Proofs.YtdccnjinehcenaaW.PrintLast Go.Proofs.YtdccnjinehcenaaW.PrintMore
theorem zeros_nat (n : Nat) (h : n ≤ 1000) : portageref17_zeros.f (n : Int) = some (strOfNums (List.replicate n 0)) := by
  unfold portageref17_zeros.f
  rw [if_pos (by omega), Int.toNat_natCast, if_pos (by omega)]
theorem rhead_eq (q z : Nat) (K : Nat) (hK : 10 ≤ K) : portageref17_head.f K (q : Int) (z : Int) = some (headB q z) := by
  have l4 : ∀ x : Int, (strOfNums (lowL x 4)).size = 4 := fun x => by rw [strOfNums_size, lowL_length]
  have e1 : ((⟨#[90]⟩ : ByteArray)) = strOfNums [90] := by decide +kernel
  have e2 : ((⟨#[69]⟩ : ByteArray)) = strOfNums [69] := by decide +kernel
  have s1 : (strOfNums [90]).size = 1 := by rw [strOfNums_size]; rfl
  have s2 : (strOfNums [69]).size = 1 := by rw [strOfNums_size]; rfl
  have low : ∀ x : Int, portageref10_Bytes.f K x 4 = some (strOfNums (lowL x 4)) := fun x => bytes_k x 4 (by omega) hK
  have s54 : (strOfNums (List.replicate 54 0)).size = 54 := by rw [strOfNums_size, List.length_replicate]
  unfold portageref17_head.f
  rw [low, Option.bind_some, l4, if_pos (by omega), low, Option.bind_some, e1, e2, ByteArray.size_append, l4, l4, s1, if_pos (by omega)]
  have sz : ((((strOfNums [90] ++ strOfNums (lowL (q : Int) 4)) ++ strOfNums (lowL (z : Int) 4)).size : Nat) : Int) = 9 := by
    rw [ByteArray.size_append, ByteArray.size_append, l4, l4, s1]
    rfl
  have w1 : wrap64 (63 - 9) = ((54 : Nat) : Int) := by decide +kernel
  rw [sz, w1, zeros_nat 54 (by omega), Option.bind_some]
  rw [if_pos (by rw [ByteArray.size_append, ByteArray.size_append, l4, l4, s1, s54]; omega), if_pos (by rw [ByteArray.size_append, ByteArray.size_append, ByteArray.size_append, l4, l4, s1, s54]; omega)]
  unfold headB hd
  rw [strs_append, strs_append, strs_append, strs_append, ByteArray.append_assoc, ByteArray.append_assoc, ByteArray.append_assoc]
theorem cut_same (s : ByteArray) (c : Nat) (h : 64 * c ≤ s.size) : s.extract (64 * c) (min (64 * c + 64) s.size) = (rest s c).extract 0 (min 64 (rest s c).size) := by
  apply Go.WideShapes.bytes_inj
  rw [data_extract, data_extract, rest_list, rest_size, List.drop_zero]
  congr 1
  omega
theorem pad_same (m n : Nat) (h : m + n = 64) : strOfNums (List.replicate n 0) = (blk 0).extract m (blk 0).size := by
  unfold blk
  rw [str_drop, List.drop_replicate, show 64 - m = n from by omega]
theorem idx_eq (p c : Nat) (hp : p ≤ 65) (hc : c ≤ 64) : wrap64 (wrap64 ((p : Int) + 1) + wrap64 (Int.tdiv ((64 * c : Nat) : Int) 64)) = ((p + 1 + c : Nat) : Int) := by
  have t : Int.tdiv ((64 * c : Nat) : Int) 64 = (c : Int) := by
    rw [Int.tdiv_eq_ediv_of_nonneg (by omega)]
    omega
  rw [t, w64 (n := (p : Int) + 1) (by omega) (by omega), w64 (n := (c : Int)) (by omega) (by omega), w64 (by omega) (by omega)]
  omega
theorem left_eq (a : Nat) (h : a ≤ 64) : wrap64 (64 - (a : Int)) = ((64 - a : Nat) : Int) := by
  rw [w64 (by omega) (by omega)]
  omega
theorem next_eq (c : Nat) (hc : c ≤ 64) : wrap64 (((64 * c : Nat) : Int) + 64) = ((64 * c + 64 : Nat) : Int) := by
  rw [w64 (by omega) (by omega)]
  omega
theorem mn_eq (a b : Nat) : mn (a : Int) (b : Int) = ((min a b : Nat) : Int) := by
  unfold mn
  omega
theorem chunk_eq (s : ByteArray) (c m : Nat) (h : 64 * c ≤ s.size) (hm : m = min (64 * c + 64) s.size) :
    (s.extract (64 * c) m).size = m - 64 * c ∧ s.extract (64 * c) m ++ strOfNums (List.replicate (64 - (m - 64 * c)) 0) = chunk s c ∧ m - 64 * c + (strOfNums (List.replicate (64 - (m - 64 * c)) 0)).size = 64 := by
  have hsz : (s.extract (64 * c) m).size = m - 64 * c := by rw [ByteArray.size_extract]; omega
  have hp := pad_same (min 64 (rest s c).size) (64 - (m - 64 * c)) (by rw [rest_size]; omega)
  have hch : s.extract (64 * c) m ++ strOfNums (List.replicate (64 - (m - 64 * c)) 0) = chunk s c := by
    unfold chunk
    rw [hp, hm, cut_same s c h]
  refine ⟨hsz, hch, ?_⟩
  rw [← hsz, hsz, ← hsz, ← ByteArray.size_append]
  rw [hsz, hch, chunk_size]
theorem rplan_l0 (q : Nat) (s : ByteArray) (hs : s.size ≤ 4096) : ∀ (d c : Nat), c + d = blocks s → ∀ K, d + 20 ≤ K →
    portageref17_Plan.l0 K (q : Int) s ((q % 2 * 65 : Nat) : Int) (open_ (q % 2 * 65) s c) ((64 * c : Nat) : Int) = some (plan q s, 0)
  | 0, c, hc, K, hK => by
    obtain ⟨m, rfl⟩ : ∃ m, K = m + 1 := ⟨K - 1, by omega⟩
    have hl : (open_ (q % 2 * 65) s c).length = c + 1 := by unfold open_; rw [List.length_cons, chunks_length]
    have h1 : ¬ ((64 * c : Nat) : Int) < (s.size : Int) := by unfold blocks at hc; omega
    have h2 : (open_ (q % 2 * 65) s c).length < 5864062014805 := by rw [hl]; unfold blocks at hc; omega
    rw [portageref17_Plan.l0, if_neg h1, rhead_eq q s.size m (by omega), Option.bind_some, if_pos h2]
    unfold plan
    rw [show c = blocks s from by omega]
  | d + 1, c, hc, K, hK => by
    obtain ⟨m, rfl⟩ : ∃ m, K = m + 1 := ⟨K - 1, by omega⟩
    have ih := rplan_l0 q s hs d (c + 1) (by omega) m (by omega)
    have hb : blocks s ≤ 64 := by unfold blocks; omega
    have hc64 : c + 1 ≤ 64 := by omega
    have hq : q % 2 * 65 ≤ 65 := by omega
    have hlt : 64 * c < s.size := by unfold blocks at hc; omega
    have hl : (open_ (q % 2 * 65) s c).length = c + 1 := by unfold open_; rw [List.length_cons, chunks_length]
    have hl2 : (open_ (q % 2 * 65) s c).length < 5864062014805 := by rw [hl]; exact Nat.lt_of_le_of_lt hc64 (by decide)
    have w1 := next_eq c (by omega)
    have hmn := mn_eq (64 * c + 64) s.size
    have a1 : ((64 * c : Nat) : Int) < (s.size : Int) := Int.ofNat_lt.mpr hlt
    have a2 : (0 : Int) ≤ ((64 * c : Nat) : Int) := Int.natCast_nonneg _
    have a3 : ((64 * c : Nat) : Int) ≤ ((min (64 * c + 64) s.size : Nat) : Int) := Int.ofNat_le.mpr (Nat.le_min.mpr ⟨Nat.le_add_right _ _, Nat.le_of_lt hlt⟩)
    have a4 : ((min (64 * c + 64) s.size : Nat) : Int) ≤ (s.size : Int) := Int.ofNat_le.mpr (Nat.min_le_right _ _)
    generalize hM : min (64 * c + 64) s.size = M at hmn a3 a4
    obtain ⟨hsz, hch, hcs⟩ := chunk_eq s c M (Nat.le_of_lt hlt) hM.symm
    have hM64 : M - 64 * c ≤ 64 := by rw [← hM]; omega
    have w2 := left_eq (M - 64 * c) hM64
    have w3 := idx_eq (q % 2 * 65) c hq (Nat.le_of_succ_le hc64)
    have a5 : 64 - (M - 64 * c) ≤ 1000 := Nat.le_trans (Nat.sub_le _ _) (by decide)
    have hle := Nat.le_trans (Nat.le_of_eq hcs) (show 64 ≤ 9223372036854775807 by decide)
    rw [portageref17_Plan.l0, if_pos a1, w1, hmn, if_pos a2, if_pos a3, if_pos a4, Int.toNat_natCast, Int.toNat_natCast, hsz, w2, zeros_nat _ a5, Option.bind_some]
    rw [if_pos hle, if_pos hl2, w3, hch]
    unfold open_ at ih ⊢
    rw [chunks_succ] at ih
    exact ih
theorem rplan_eq (q : Nat) (h1 : 1 ≤ q) (h2 : q ≤ 1048576) (s : ByteArray) (hs : s.size ≤ 4096) (K : Nat) (hK : 100 ≤ K) : portageref17_Plan.f K (q : Int) s = some (plan q s, 0) := by
  obtain ⟨m, rfl⟩ : ∃ m, K = m + 1 := ⟨K - 1, by omega⟩
  have hb : blocks s ≤ 64 := by unfold blocks; omega
  have w : wrap64 (Int.tmod (q : Int) 2 * 65) = ((q % 2 * 65 : Nat) : Int) := by
    rw [Int.tmod_eq_emod_of_nonneg (by omega)]
    unfold wrap64
    omega
  unfold portageref17_Plan.f
  rw [if_neg (by omega), if_neg (by omega), decide_eq_false (by omega), portageref17_Plan.j0, if_neg (by decide), w]
  change ((portageref17_zeros.f ((64 : Nat) : Int)).bind _) = _
  rw [zeros_nat 64 (by omega), Option.bind_some]
  exact rplan_l0 q s hs (blocks s) 0 (by omega) m (by omega)
theorem rplan_bad (q : Int) (s : ByteArray) (h : q < 1 ∨ q > 1048576 ∨ 4096 < s.size) (K : Nat) (hK : 1 ≤ K) : portageref17_Plan.f K q s = some ([], 1800) := by
  obtain ⟨m, rfl⟩ : ∃ m, K = m + 1 := ⟨K - 1, by omega⟩
  unfold portageref17_Plan.f
  by_cases h1 : q < 1
  · rw [if_pos h1, portageref17_Plan.j0, if_pos rfl]
  · rw [if_neg h1]
    by_cases h2 : q > 1048576
    · rw [if_pos h2, portageref17_Plan.j0, if_pos rfl]
    · rw [if_neg h2, decide_eq_true (by omega), portageref17_Plan.j0, if_pos rfl]
end Go.Proofs.Ytdccnjinehcenaa.LS
