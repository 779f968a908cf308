/- The reference's search for the slot: as the program's. -/
import Derived.Test.YtdccnjinehcenaaDiskPLS
import Derived.Test.YtdccnjinehcenaaRefDLS
import Derived.Test.YtdccnjinehcenaaLowLLS
import Derived.Test.YtdccnjinehcenaaSlotLLS
import Derived.Test.YtdccnjinehcenaaSlotPLS
import Derived.Test.YtdccnjinehcenaaNumRLS
import Derived.Test.YtdccnjinehcenaaSlotRLS
import Derived.Test.YtdccnjinehcenaaLS11
import Derived.Test.YtdccnjinehcenaaLS12
namespace Go.Proofs.Ytdccnjinehcenaa.LS
set_option linter.unusedVariables false
set_option linter.unusedSimpArgs false
open Go.RowKit Go.Proofs.YtdccnjinehcenaaW.PrintWords Go.Proofs.YtdccnjinehcenaaW.PrintLast Go.Proofs.YtdccnjinehcenaaW.PrintMore
theorem slotOf_par {g : Nat → ByteArray} {p : Nat} {x : Nat × ByteArray} (h : slotOf g p = some x) : x.1 % 2 * 65 = p := by
  unfold slotOf at h
  by_cases c : 1 ≤ qOf (g p) ∧ qOf (g p) ≤ 1048576 ∧ zOf (g p) ≤ 4096 ∧ qOf (g p) % 2 * 65 = p ∧ headB (qOf (g p)) (zOf (g p)) = g p
  · rw [if_pos c] at h
    obtain rfl := Option.some.inj h
    exact c.2.2.2.1
  · rw [if_neg c] at h
    exact absurd h (by simp)
def pre (d : List ByteArray) (p j : Nat) : ByteArray := ⟨((List.range j).flatMap fun i => (blkOf d (p + i)).data.toList).toArray⟩
theorem pre_succ (d : List ByteArray) (p j : Nat) : pre d p (j + 1) = pre d p j ++ blkOf d (p + j) := by
  apply Go.WideShapes.bytes_inj
  rw [ByteArray.data_append, Array.toList_append]
  show (List.range (j + 1)).flatMap _ = (List.range j).flatMap _ ++ _
  rw [List.range_succ, List.flatMap_append]
  simp
theorem pre_size {d : List ByteArray} (hd : fine d) (p : Nat) : ∀ j, p + j ≤ 130 → (pre d p j).size = 64 * j
  | 0, _ => rfl
  | j + 1, h => by
    rw [pre_succ, ByteArray.size_append, pre_size hd p j (by omega)]
    have : (blkOf d (p + j)).size = 64 := fine_get hd (by omega)
    omega
theorem pre_take {d : List ByteArray} (hd : fine d) (p j z : Nat) (hp : p + j ≤ 130) (hj : j ≤ 64) (hz : z ≤ 64 * j) : (pre d p j).extract 0 z = ⟨((cat (blkOf d) p).take z).toArray⟩ := by
  have hs := pre_size hd p j hp
  rw [← data_len] at hs
  apply Go.WideShapes.bytes_inj
  rw [data_extract, List.drop_zero, Nat.sub_zero]
  show ((List.range j).flatMap _).take z = (cat (blkOf d) p).take z
  unfold cat
  have e : List.range 64 = List.range j ++ (List.range (64 - j)).map (j + ·) := by
    rw [← List.range_add, Nat.add_sub_cancel' hj]
  rw [e, List.flatMap_append]
  exact (List.take_append_of_le_length (Nat.le_trans hz (Nat.le_of_eq hs.symm))).symm
theorem rd_blk (d : List ByteArray) (i : Nat) (h : i < d.length) : rdOf ByteArray.empty d (i : Int) = blkOf d i := by
  rw [rdOf_nat _ _ _ h]
  unfold blkOf
  rw [List.getD_eq_getElem?_getD, List.getElem?_eq_getElem h]
  rfl
theorem fs_l1 (d : List ByteArray) (hd : fine d) (p : Nat) (hp : p ≤ 65) (z : Nat) (hz : z ≤ 4096) (q t : Int) (r : Int × ByteArray × Int) (B : Nat)
    (hr : ∀ K, B ≤ K → portageref17_FindSlot.l0 K d q ⟨((cat (blkOf d) (p + 1)).take z).toArray⟩ (wrap64 (t + 1)) = some r) : ∀ (e j : Nat), j + e = 64 → ∀ K, B + e + 2 ≤ K →
    portageref17_FindSlot.l1 K d q (pre d (p + 1) j) t (p : Int) (z : Int) ((j + 1 : Nat) : Int) = some r
  | 0, j, he, K, hK => by
    obtain ⟨m, rfl⟩ : ∃ m, K = m + 1 := ⟨K - 1, by omega⟩
    have hs := pre_size hd (p + 1) j (by omega)
    rw [portageref17_FindSlot.l1, if_neg (by omega), if_pos (by omega), if_pos (by omega), Int.toNat_natCast, pre_take hd (p + 1) j z (by omega) (by omega) (by omega)]
    exact hr m (by omega)
  | e + 1, j, he, K, hK => by
    obtain ⟨m, rfl⟩ : ∃ m, K = m + 1 := ⟨K - 1, by omega⟩
    have hs := pre_size hd (p + 1) j (by omega)
    rw [portageref17_FindSlot.l1, if_pos (by omega)]
    by_cases h : 64 * j < z
    · have ih := fs_l1 d hd p hp z hz q t r B hr e (j + 1) (by omega) m (by omega)
      have hb : (blkOf d (p + 1 + j)).size = 64 := fine_get hd (by omega)
      have w1 : wrap64 ((p : Int) + ((j + 1 : Nat) : Int)) = ((p + 1 + j : Nat) : Int) := by rw [w64 (by omega) (by omega)]; omega
      have w2 : wrap64 (((j + 1 : Nat) : Int) + 1) = ((j + 1 + 1 : Nat) : Int) := by rw [w64 (by omega) (by omega)]; omega
      have hl := hd.1
      have hle : (pre d (p + 1) j).size + (blkOf d (p + 1 + j)).size ≤ 9223372036854775807 := by
        rw [hs, hb]
        exact Nat.le_trans (show 64 * j + 64 ≤ 5000 by omega) (by decide)
      rw [if_pos (by omega), w1, if_pos (by omega), if_pos (by omega), rd_blk d _ (by omega), if_pos hle, ← pre_succ, w2]
      exact ih
    · rw [if_neg (by omega), if_pos (by omega), if_pos (by omega), Int.toNat_natCast, pre_take hd (p + 1) j z (by omega) (by omega) (by omega)]
      exact hr m (by omega)
/-- What is held behind one more slot. -/
def nx (o : Option (Nat × ByteArray)) (x : Int) (y : ByteArray) : Int × ByteArray := match o with | some (q, s) => if (q : Int) < x then (x, y) else ((q : Int), s) | none => (x, y)
theorem str_sub (l : List Int) (i j : Nat) : (strOfNums l).extract i j = strOfNums ((l.drop i).take (j - i)) := by
  apply Go.WideShapes.bytes_inj
  rw [ByteArray.data_extract, Array.toList_extract, strOfNums_data, strOfNums_data, List.extract_eq_take_drop, List.map_take, List.map_drop]
theorem fs_step (d : List ByteArray) (hd : fine d) (t : Nat) (ht : t ≤ 1) (x : Int) (y : ByteArray) (r : Int × ByteArray × Int) (B : Nat)
    (hr : ∀ K, B ≤ K → portageref17_FindSlot.l0 K d (nx (slotOf (blkOf d) (t * 65)) x y).1 (nx (slotOf (blkOf d) (t * 65)) x y).2 ((t + 1 : Nat) : Int) = some r) (K : Nat) (hK : B + 100 ≤ K) :
    portageref17_FindSlot.l0 K d x y (t : Int) = some r := by
  obtain ⟨m, rfl⟩ : ∃ m, K = m + 1 := ⟨K - 1, by omega⟩
  have hp : t * 65 ≤ 65 := by omega
  have hpt : t * 65 % 2 = t := by omega
  have w0 : wrap64 ((t : Int) * 65) = ((t * 65 : Nat) : Int) := by rw [w64 (by omega) (by omega)]; omega
  have w1 : wrap64 ((t : Int) + 1) = ((t + 1 : Nat) : Int) := by rw [w64 (by omega) (by omega)]; omega
  generalize hpe : t * 65 = p at *
  have hl := hd.1
  have hs : (blkOf d p).size = 64 := fine_get hd (by omega)
  have e1 : rdOf ByteArray.empty d (p : Int) = blkOf d p := rd_blk d p (by omega)
  obtain ⟨x0, u, hu, hp2⟩ := parts (blkOf d p) hs
  have hq32 : qOf (blkOf d p) < 4294967296 := n4_lt (drop_is (bytes_is _) 1)
  have hz32 : zOf (blkOf d p) < 4294967296 := n4_lt (drop_is (bytes_is _) 5)
  have skip : ∀ q z : Int, nx (slotOf (blkOf d) p) x y = (x, y) → ∀ k, B + 1 ≤ k → portageref17_FindSlot.j1 k d x y (t : Int) (p : Int) q z true = some r := by
    intro q z hn k hk
    obtain ⟨k, rfl⟩ : ∃ j, k = j + 1 := ⟨k - 1, by omega⟩
    rw [portageref17_FindSlot.j1, if_pos rfl, w1]
    have := hr k (by omega)
    rw [hn] at this
    exact this
  have f1 : (blkOf d p).extract 1 5 = strOfNums (lowL ((qOf (blkOf d p) : Nat) : Int) 4) := by
    conv => lhs; rw [← str_bytes (blkOf d p), hp2, str_sub]
    congr 1
  have f2 : (blkOf d p).extract 5 9 = strOfNums (lowL ((zOf (blkOf d p) : Nat) : Int) 4) := by
    conv => lhs; rw [← str_bytes (blkOf d p), hp2, str_sub]
    congr 1
  have n1 := number_k (qOf (blkOf d p)) 4 (by omega) (show qOf (blkOf d p) < 2 ^ (8 * 4) from hq32) (k := m) (by omega)
  have n2 := number_k (zOf (blkOf d p)) 4 (by omega) (show zOf (blkOf d p) < 2 ^ (8 * 4) from hz32) (k := m) (by omega)
  have hd2 := rhead_eq (qOf (blkOf d p)) (zOf (blkOf d p)) m (by omega)
  have hx : slotOf (blkOf d) p = if 1 ≤ qOf (blkOf d p) ∧ qOf (blkOf d p) ≤ 1048576 ∧ zOf (blkOf d p) ≤ 4096 ∧ qOf (blkOf d p) % 2 * 65 = p ∧ headB (qOf (blkOf d p)) (zOf (blkOf d p)) = blkOf d p then some (qOf (blkOf d p), ⟨((cat (blkOf d) (p + 1)).take (zOf (blkOf d p))).toArray⟩) else none := rfl
  rw [portageref17_FindSlot.l0, if_pos (by omega), w0, if_pos (by omega), if_pos (by omega), if_pos (by decide), e1, if_pos (by rw [hs]; decide), f1, n1, Option.bind_some, if_pos (by decide), if_pos (by rw [hs]; decide), f2, n2, Option.bind_some, hd2]
  clear f1 f2 n1 n2 hd2 hp2
  generalize qOf (blkOf d p) = q at *
  generalize zOf (blkOf d p) = z at *
  have htm : Int.tmod (q : Int) 2 = ((q % 2 : Nat) : Int) := by rw [Int.tmod_eq_emod_of_nonneg (by omega)]; omega
  by_cases h1 : (q : Int) < 1
  · rw [if_pos h1]
    exact skip _ _ (by rw [hx, if_neg (fun h => by omega)]; rfl) m (by omega)
  · rw [if_neg h1]
    by_cases h2 : (q : Int) > 1048576
    · rw [if_pos h2]
      exact skip _ _ (by rw [hx, if_neg (fun h => by omega)]; rfl) m (by omega)
    · rw [if_neg h2, htm]
      by_cases h3 : ((q % 2 : Nat) : Int) = (t : Int)
      · rw [if_pos h3]
        by_cases h4 : (z : Int) > 4096
        · rw [if_pos h4]
          exact skip _ _ (by rw [hx, if_neg (fun h => by omega)]; rfl) m (by omega)
        · rw [if_neg h4, Option.bind_some]
          by_cases h5 : headB q z = blkOf d p
          · have hc : 1 ≤ q ∧ q ≤ 1048576 ∧ z ≤ 4096 ∧ q % 2 * 65 = p ∧ headB q z = blkOf d p := ⟨by omega, by omega, by omega, by omega, h5⟩
            rw [if_pos hc] at hx
            rw [if_pos (toList_eq.mpr h5.symm)]
            by_cases h6 : (q : Int) < x
            · rw [decide_eq_true h6]
              exact skip _ _ (by rw [hx]; unfold nx; dsimp only; rw [if_pos h6]) m (by omega)
            · obtain ⟨k, rfl⟩ : ∃ j, m = j + 1 := ⟨m - 1, by omega⟩
              have hn : nx (slotOf (blkOf d) p) x y = ((q : Int), ⟨((cat (blkOf d) (p + 1)).take z).toArray⟩) := by rw [hx]; unfold nx; dsimp only; rw [if_neg h6]
              rw [decide_eq_false h6, portageref17_FindSlot.j1, if_neg (by decide)]
              rw [hn] at hr
              rw [← w1] at hr
              exact fs_l1 d hd p hp z (by omega) (q : Int) (t : Int) r B hr 64 0 (by omega) k (by omega)
          · rw [if_neg (fun h => h5 (toList_eq.mp h).symm)]
            exact skip _ _ (by rw [hx, if_neg (fun h => h5 h.2.2.2.2)]; rfl) m (by omega)
      · rw [if_neg h3]
        exact skip _ _ (by rw [hx, if_neg (fun h => by omega)]; rfl) m (by omega)
theorem fs_end (d : List ByteArray) (x : Int) (y : ByteArray) (K : Nat) (hK : 1 ≤ K) : portageref17_FindSlot.l0 K d x y 2 = some (if x = 0 then (0, (⟨#[]⟩ : ByteArray), 1801) else (x, y, 0)) := by
  obtain ⟨m, rfl⟩ : ∃ m, K = m + 1 := ⟨K - 1, by omega⟩
  rw [portageref17_FindSlot.l0, if_neg (by decide)]
  by_cases h : x = 0
  · rw [if_pos h, if_pos h]
  · rw [if_neg h, if_neg h]
theorem nx_best (g : Nat → ByteArray) : (let a := nx (slotOf g (0 * 65)) 0 (⟨#[]⟩ : ByteArray); let b := nx (slotOf g (1 * 65)) a.1 a.2; if b.1 = 0 then ((0 : Int), (⟨#[]⟩ : ByteArray), (1801 : Int)) else (b.1, b.2, 0)) =
    match best (slotOf g 0) (slotOf g 65) with | some (q, s) => ((q : Int), s, 0) | none => (0, (⟨#[]⟩ : ByteArray), 1801) := by
  show (let a := nx (slotOf g 0) 0 (⟨#[]⟩ : ByteArray); let b := nx (slotOf g 65) a.1 a.2; if b.1 = 0 then ((0 : Int), (⟨#[]⟩ : ByteArray), (1801 : Int)) else (b.1, b.2, 0)) = _
  cases h0 : slotOf g 0 with
  | none =>
    cases h1 : slotOf g 65 with
    | none => rfl
    | some y =>
      have := slotOf_pos h1
      unfold nx best
      dsimp only
      rw [if_neg (show ¬ (y.1 : Int) < 0 by omega)]
      dsimp only
      rw [if_neg (by omega)]
  | some x =>
    have hx := slotOf_pos h0
    have px := slotOf_par h0
    cases h1 : slotOf g 65 with
    | none =>
      unfold nx best
      dsimp only
      rw [if_neg (show ¬ (x.1 : Int) < 0 by omega)]
      dsimp only
      rw [if_neg (by omega)]
    | some y =>
      have hy := slotOf_pos h1
      have py := slotOf_par h1
      unfold nx best
      dsimp only
      rw [if_neg (show ¬ (x.1 : Int) < 0 by omega)]
      dsimp only
      by_cases h : (y.1 : Int) < (x.1 : Int)
      · rw [if_pos h, if_neg (show ¬ y.1 > x.1 by omega)]
        dsimp only
        rw [if_neg (by omega)]
      · rw [if_neg h, if_pos (show y.1 > x.1 by omega)]
        dsimp only
        rw [if_neg (by omega)]
theorem rfind_eq (d : List ByteArray) (hd : fine d) (K : Nat) (hK : 500 ≤ K) :
    portageref17_FindSlot.f K d = some (match best (slotOf (blkOf d) 0) (slotOf (blkOf d) 65) with | some (q, s) => ((q : Int), s, 0) | none => (0, (⟨#[]⟩ : ByteArray), 1801)) := by
  unfold portageref17_FindSlot.f
  rw [ref_may d (by have := hd.1; omega) _ (by have := hd.1; omega), Option.bind_some, mayB_true.mpr hd, if_pos rfl]
  refine fs_step d hd 0 (by omega) 0 (⟨#[]⟩ : ByteArray) _ 102 (fun k hk => fs_step d hd 1 (by omega) _ _ _ 1 (fun k hk => ?_) k (by omega)) K (by omega)
  rw [← nx_best]
  exact fs_end d _ _ k hk
theorem rfind_bad (d : List ByteArray) (hl : d.length ≤ 9000000000000000000) (h : mayB d = false) (K : Nat) (hK : d.length + 1 ≤ K) : portageref17_FindSlot.f K d = some (0, (⟨#[]⟩ : ByteArray), 1800) := by
  unfold portageref17_FindSlot.f
  rw [ref_may d hl K hK, Option.bind_some, h, if_neg (by decide)]
theorem samew_l0 (l : List S42) (hl : l.length ≤ 1000) : ∀ (e i : Nat), i + e = l.length → ∀ K, e + 1 ≤ K → portagelaw0_SameWrites.l0 K l l (i : Int) = some true
  | 0, i, hi, K, hK => by
    obtain ⟨m, rfl⟩ : ∃ m, K = m + 1 := ⟨K - 1, by omega⟩
    rw [portagelaw0_SameWrites.l0, if_neg (by omega)]
  | e + 1, i, hi, K, hK => by
    obtain ⟨m, rfl⟩ : ∃ m, K = m + 1 := ⟨K - 1, by omega⟩
    rw [portagelaw0_SameWrites.l0, if_pos (by omega), if_pos (by omega), if_pos (by omega), if_neg (by simp), w64 (by omega) (by omega)]
    exact samew_l0 l hl e (i + 1) (by omega) m (by omega)
theorem samew_eq (l : List S42) (hl : l.length ≤ 1000) (K : Nat) (hK : 1001 ≤ K) : portagelaw0_SameWrites.f K l l = some true := by
  unfold portagelaw0_SameWrites.f
  rw [if_pos rfl]
  exact samew_l0 l hl l.length 0 (by omega) K (by omega)
theorem spoilw_l0 : ∀ (e i : Nat) (l : List S42), l.length ≤ 1000 → i + e = l.length → ∀ K, e + 1 ≤ K → ∃ r, portagelaw0_SpoilWrites.l0 K l (i : Int) = some r
  | 0, i, l, hl, hi, K, hK => by
    obtain ⟨m, rfl⟩ : ∃ m, K = m + 1 := ⟨K - 1, by omega⟩
    exact ⟨l, by rw [portagelaw0_SpoilWrites.l0, if_neg (by omega)]⟩
  | e + 1, i, l, hl, hi, K, hK => by
    obtain ⟨m, rfl⟩ : ∃ m, K = m + 1 := ⟨K - 1, by omega⟩
    obtain ⟨r, hr⟩ := spoilw_l0 e (i + 1) (l.set ((i : Int)).toNat (⟨Go.bits .xor .i64 ((rd_T42 l (i : Int)).f0) 90, (rd_T42 l (i : Int)).f1⟩ : S42)) (by rw [List.length_set]; exact hl) (by rw [List.length_set]; omega) m (by omega)
    refine ⟨r, ?_⟩
    rw [portagelaw0_SpoilWrites.l0, if_pos (by omega), if_pos (by omega), w64 (by omega) (by omega)]
    exact hr
theorem spoilw_eq (l : List S42) (hl : l.length ≤ 1000) (K : Nat) (hK : 1001 ≤ K) : ∃ r, portagelaw0_SpoilWrites.f K l = some r := by
  unfold portagelaw0_SpoilWrites.f
  exact spoilw_l0 l.length 0 l hl (by omega) K (by omega)
end Go.Proofs.Ytdccnjinehcenaa.LS
