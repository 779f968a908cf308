/- Chapter 18: what a plan writes, and what a disk's slots hold behind a part of it. -/
import Derived.Test.YtdccnjinehcenaaDiskPLF
import Derived.Test.YtdccnjinehcenaaLowLLF
import Derived.Test.YtdccnjinehcenaaSlotLLF
import Derived.Test.YtdccnjinehcenaaLF4
namespace Go.Proofs.Ytdccnjinehcenaa.LF
set_option linter.unusedVariables false
set_option linter.unusedSimpArgs false
open Go.RowKit Go.Proofs.YtdccnjinehcenaaW.PrintWords Go.Proofs.YtdccnjinehcenaaW.PrintLast Go.Proofs.YtdccnjinehcenaaW.PrintMore
/-- What is left of an image behind j blocks; the block that is written then. -/
def rest (s : ByteArray) (j : Nat) : ByteArray := s.extract (64 * j) s.size
def chunk (s : ByteArray) (j : Nat) : ByteArray := (rest s j).extract 0 (min 64 (rest s j).size) ++ (blk 0).extract (min 64 (rest s j).size) (blk 0).size
theorem rest_size (s : ByteArray) (j : Nat) : (rest s j).size = s.size - 64 * j := by unfold rest; rw [ByteArray.size_extract]; omega
theorem chunk_size (s : ByteArray) (j : Nat) : (chunk s j).size = 64 := by
  unfold chunk
  rw [ByteArray.size_append, ByteArray.size_extract, ByteArray.size_extract, blk_size]
  omega
theorem data_extract (s : ByteArray) (a b : Nat) : (s.extract a b).data.toList = (s.data.toList.drop a).take (b - a) := by
  rw [ByteArray.data_extract, Array.toList_extract, List.extract_eq_take_drop]
theorem data_len (s : ByteArray) : s.data.toList.length = s.size := by rw [Array.length_toList]; rfl
theorem rest_list (s : ByteArray) (j : Nat) : (rest s j).data.toList = s.data.toList.drop (64 * j) := by
  unfold rest
  rw [data_extract]
  exact List.take_of_length_le (by rw [List.length_drop, data_len]; omega)
theorem rest_next (s : ByteArray) (j : Nat) : (rest s j).extract (min 64 (rest s j).size) (rest s j).size = rest s (j + 1) := by
  apply Go.WideShapes.bytes_inj
  rw [data_extract, rest_list, rest_list, rest_size, List.drop_drop, List.take_of_length_le (by rw [List.length_drop, data_len]; omega)]
  by_cases h : 64 ≤ s.size - 64 * j
  · rw [Nat.min_eq_left h]
    congr 1
  · rw [List.drop_eq_nil_of_le (by rw [data_len]; omega), List.drop_eq_nil_of_le (by rw [data_len]; omega)]
/-- How many blocks an image takes. -/
def blocks (s : ByteArray) : Nat := (s.size + 63) / 64
def chunks (p : Nat) (s : ByteArray) (c : Nat) : List S42 := (List.range c).map fun j => (⟨((p + 1 + j : Nat) : Int), chunk s j⟩ : S42)
theorem chunks_succ (p : Nat) (s : ByteArray) (c : Nat) : chunks p s (c + 1) = chunks p s c ++ [⟨((p + 1 + c : Nat) : Int), chunk s c⟩] := by
  unfold chunks
  rw [List.range_succ, List.map_append]
  rfl
theorem chunks_length (p : Nat) (s : ByteArray) (c : Nat) : (chunks p s c).length = c := by unfold chunks; rw [List.length_map, List.length_range]
def open_ (p : Nat) (s : ByteArray) (c : Nat) : List S42 := ⟨(p : Int), blk 0⟩ :: chunks p s c
def plan (q : Nat) (s : ByteArray) : List S42 := open_ (q % 2 * 65) s (blocks s) ++ [⟨((q % 2 * 65 : Nat) : Int), headB q s.size⟩]
theorem plan_length (q : Nat) (s : ByteArray) : (plan q s).length = blocks s + 2 := by unfold plan open_; rw [List.length_append, List.length_cons, chunks_length]; rfl
theorem plan_l0 (q : Nat) (hq : q < 4294967296) (s : ByteArray) (hs : s.size ≤ 4096) : ∀ (d c : Nat), c + d = blocks s → ∀ K, d + 20 ≤ K →
    slot_Plan.l0 K (q : Int) s ((q % 2 * 65 : Nat) : Int) (open_ (q % 2 * 65) s c) (rest s c) = some (plan q s, 0)
  | 0, c, hc, K, hK => by
    obtain ⟨m, rfl⟩ : ∃ m, K = m + 1 := ⟨K - 1, by omega⟩
    have hr := rest_size s c
    have e : (rest s c).toList = [] := by
      rw [Lib.toList_data]
      exact List.eq_nil_of_length_eq_zero (by rw [data_len, hr]; unfold blocks at hc; omega)
    have hl : (open_ (q % 2 * 65) s c).length = c + 1 := by unfold open_; rw [List.length_cons, chunks_length]
    rw [slot_Plan.l0, if_pos e, head_eq q s.size m (by omega), Option.bind_some, if_pos (by rw [hl]; unfold blocks at hc; omega)]
    unfold plan
    rw [show c = blocks s from by omega]
  | d + 1, c, hc, K, hK => by
    obtain ⟨m, rfl⟩ : ∃ m, K = m + 1 := ⟨K - 1, by omega⟩
    have ih := plan_l0 q hq s hs d (c + 1) (by omega) m (by omega)
    have hb : blocks s ≤ 64 := by unfold blocks; omega
    have hc64 : c + 1 ≤ 64 := by omega
    have hlt : c + 1 < 5864062014805 := Nat.lt_of_le_of_lt hc64 (by decide)
    have hr := rest_size s c
    have hpos : 0 < (rest s c).size := by rw [hr]; unfold blocks at hc; omega
    have e : ¬ (rest s c).toList = [] := by
      rw [Lib.toList_data]
      intro h
      have := data_len (rest s c)
      rw [h, List.length_nil] at this
      omega
    have hl : (open_ (q % 2 * 65) s c).length = c + 1 := by unfold open_; rw [List.length_cons, chunks_length]
    have hmn : mn 64 ((rest s c).size : Int) = ((min 64 (rest s c).size : Nat) : Int) := by unfold mn; omega
    have hw : wrap64 (((q % 2 * 65 : Nat) : Int) + ((c + 1 : Nat) : Int)) = ((q % 2 * 65 + 1 + c : Nat) : Int) := by clear hr hpos e hl hmn; unfold wrap64; omega
    have hcs := chunk_size s c
    unfold chunk at hcs
    rw [ByteArray.size_append] at hcs
    have hle := Nat.le_trans (Nat.le_of_eq hcs) (show 64 ≤ 9223372036854775807 by decide)
    have h0 : (0 : Int) ≤ ((min 64 (rest s c).size : Nat) : Int) := Int.natCast_nonneg _
    have h1 : ((min 64 (rest s c).size : Nat) : Int) ≤ ((rest s c).size : Int) := Int.ofNat_le.mpr (Nat.min_le_right _ _)
    have h2 : ((min 64 (rest s c).size : Nat) : Int) ≤ ((blk 0).size : Int) := by rw [blk_size]; exact Int.ofNat_le.mpr (Nat.min_le_left _ _)
    rw [slot_Plan.l0, if_neg e, hmn, if_pos h0, if_pos h1, blank_eq, Option.bind_some, if_pos h2, Int.toNat_natCast, if_pos hle, hl, if_pos hlt, hw, rest_next]
    unfold open_ at ih ⊢
    rw [chunks_succ] at ih
    exact ih
theorem plan_eq (q : Nat) (h1 : 1 ≤ q) (h2 : q ≤ 1048576) (s : ByteArray) (hs : s.size ≤ 4096) (K : Nat) (hK : 100 ≤ K) : slot_Plan.f K (q : Int) s = some (plan q s, 0) := by
  have hb : blocks s ≤ 64 := by unfold blocks; omega
  unfold slot_Plan.f slot_may.f
  rw [if_pos (by omega), if_pos (by omega), Option.bind_some, decide_eq_true (by omega), if_pos rfl, from_nat q (by omega), Option.bind_some, blank_eq, Option.bind_some]
  have := plan_l0 q (by omega) s hs (blocks s) 0 (by omega) K (by omega)
  have e0 : rest s 0 = s := by
    apply Go.WideShapes.bytes_inj
    rw [rest_list]
    rfl
  rw [e0] at this
  exact this
theorem plan_bad (q : Int) (s : ByteArray) (h : q < 1 ∨ q > 1048576 ∨ 4096 < s.size) (K : Nat) : slot_Plan.f K q s = some ([], 1800) := by
  unfold slot_Plan.f slot_may.f
  by_cases h1 : q ≥ 1
  · rw [if_pos h1]
    by_cases h2 : q ≤ 1048576
    · rw [if_pos h2, Option.bind_some, decide_eq_false (by omega), if_neg (by decide)]
    · rw [if_neg h2, Option.bind_some, if_neg (by decide)]
  · rw [if_neg h1, Option.bind_some, if_neg (by decide)]
theorem chunks_fine (p : Nat) (hp : p ≤ 65) (s : ByteArray) (c : Nat) (hc : c ≤ 64) : (chunks p s c).any badw = false := by
  rw [Bool.eq_false_iff]
  intro h
  obtain ⟨w, hw, hb⟩ := List.any_eq_true.mp h
  unfold chunks at hw
  obtain ⟨j, hj, rfl⟩ := List.mem_map.mp hw
  have hj := List.mem_range.mp hj
  have : badw (⟨((p + 1 + j : Nat) : Int), chunk s j⟩ : S42) = false := by
    unfold badw
    rw [decide_eq_false (show ¬ ((p + 1 + j : Nat) : Int) < 0 by omega), decide_eq_false (show ¬ ((p + 1 + j : Nat) : Int) ≥ 130 by omega)]
    dsimp only
    rw [chunk_size]
    rfl
  rw [this] at hb
  exact absurd hb (by simp)
theorem badw_at (p : Nat) (hp : p ≤ 65) (b : ByteArray) (hb : b.size = 64) : badw (⟨(p : Int), b⟩ : S42) = false := by
  unfold badw
  rw [decide_eq_false (show ¬ (p : Int) < 0 by omega), decide_eq_false (show ¬ (p : Int) ≥ 130 by omega)]
  dsimp only
  rw [hb]
  rfl
theorem plan_fine (q : Nat) (s : ByteArray) (hs : s.size ≤ 4096) : (plan q s).any badw = false := by
  have hb : blocks s ≤ 64 := by unfold blocks; omega
  unfold plan open_
  rw [List.any_append, List.any_cons, chunks_fine _ (by omega) s _ hb, badw_at _ (by omega) _ (blk_size 0), List.any_cons, badw_at _ (by omega) _ (headB_size _ _)]
  rfl
theorem blk_set (d : List ByteArray) (i : Nat) (b : ByteArray) (hi : i < d.length) (j : Nat) : blkOf (d.set i b) j = if i = j then b else blkOf d j := by
  unfold blkOf
  rw [List.getD_eq_getElem?_getD, List.getD_eq_getElem?_getD]
  by_cases h : i = j
  · subst h
    rw [if_pos rfl, List.getElem?_set_self hi]
    rfl
  · rw [if_neg h, List.getElem?_set_ne h]
/-- Behind the first block and c others. -/
theorem open_blk (d : List ByteArray) (hd : d.length = 130) (p : Nat) (hp : p ≤ 65) (s : ByteArray) : ∀ c, c ≤ 64 → ∀ j, blkOf (puts d (open_ p s c)) j = if j = p then blk 0 else if p + 1 ≤ j ∧ j < p + 1 + c then chunk s (j - p - 1) else blkOf d j
  | 0, _, j => by
    unfold open_
    rw [show chunks p s 0 = [] from rfl, puts_cons, puts_nil]
    show blkOf (d.set ((p : Int)).toNat (blk 0)) j = _
    rw [Int.toNat_natCast, blk_set _ _ _ (by omega)]
    by_cases h : p = j
    · rw [if_pos h, if_pos h.symm]
    · rw [if_neg h, if_neg (fun e => h e.symm), if_neg (by omega)]
  | c + 1, hc, j => by
    have ih := open_blk d hd p hp s c (by omega) j
    have e : puts d (open_ p s (c + 1)) = (puts d (open_ p s c)).set (p + 1 + c) (chunk s c) := by
      unfold open_
      rw [chunks_succ, ← List.cons_append, puts_append, puts_cons, puts_nil]
      show (puts d _).set (((p + 1 + c : Nat) : Int)).toNat _ = _
      rw [Int.toNat_natCast]
    rw [e, blk_set _ _ _ (by rw [puts_length]; omega), ih]
    by_cases h : p + 1 + c = j
    · rw [if_pos h, if_neg (by omega), if_pos (by omega)]
      congr 1
      omega
    · rw [if_neg h]
      by_cases h1 : j = p
      · rw [if_pos h1, if_pos h1]
      · rw [if_neg h1, if_neg h1]
        by_cases h2 : p + 1 ≤ j ∧ j < p + 1 + c
        · rw [if_pos h2, if_pos (by omega)]
        · rw [if_neg h2, if_neg (by omega)]
theorem slotOf_far {g g' : Nat → ByteArray} {p : Nat} (h : ∀ j, p ≤ j → j ≤ p + 64 → g j = g' j) : slotOf g p = slotOf g' p := by
  have h0 : g p = g' p := h p (Nat.le_refl _) (by omega)
  have hc : cat g (p + 1) = cat g' (p + 1) := by
    unfold cat
    rw [List.flatMap_def, List.flatMap_def]
    congr 1
    refine List.map_congr_left fun j hj => ?_
    have := List.mem_range.mp hj
    rw [h (p + 1 + j) (by omega) (by omega)]
  unfold slotOf
  rw [h0, hc]
theorem head_first (q z : Nat) : (bytesOf (headB q z))[0]? = some 90 ∧ (bytesOf (headB q z))[63]? = some 69 := by
  have hb : bytesOf (headB q z) = hd q z := by
    unfold headB
    refine bytesOf_str ?_
    intro x hx
    unfold hd at hx
    simp only [List.mem_append, List.mem_singleton] at hx
    rcases hx with rfl | hx | hx | hx | rfl
    · omega
    · exact lowL_bytes _ _ x hx
    · exact lowL_bytes _ _ x hx
    · rw [List.eq_of_mem_replicate hx]; omega
    · omega
  rw [hb]
  refine ⟨rfl, ?_⟩
  unfold hd
  rw [List.getElem?_append_right (by show 1 ≤ 63; omega), List.getElem?_append_right (by rw [lowL_length]; show 4 ≤ 63 - 1; omega), lowL_length, List.getElem?_append_right (by rw [lowL_length]; show 4 ≤ 63 - 1 - 4; omega), lowL_length, List.getElem?_append_right (by rw [List.length_replicate]; show 54 ≤ 63 - 1 - 4 - 4; omega), List.length_replicate]
  rfl
theorem slotOf_none {g : Nat → ByteArray} {p : Nat} (h : (bytesOf (g p))[0]? ≠ some 90 ∨ (bytesOf (g p))[63]? ≠ some 69) : slotOf g p = none := by
  unfold slotOf
  refine if_neg fun hc => ?_
  have := head_first (qOf (g p)) (zOf (g p))
  rw [hc.2.2.2.2] at this
  rcases h with h | h
  · exact h this.1
  · exact h this.2
theorem bytes_app (a b : ByteArray) : bytesOf (a ++ b) = bytesOf a ++ bytesOf b := by
  unfold bytesOf
  rw [ByteArray.data_append, Array.toList_append, List.map_append]
theorem bytes_extract (a : ByteArray) (i j : Nat) : bytesOf (a.extract i j) = ((bytesOf a).drop i).take (j - i) := by
  unfold bytesOf
  rw [data_extract, List.map_take, List.map_drop]
theorem bytes_blk0 : bytesOf (blk 0) = List.replicate 64 0 := by
  unfold blk
  exact bytesOf_str (fun x hx => by rw [List.eq_of_mem_replicate hx]; omega)
/-- Zeros torn over a block: no head. -/
theorem torn_first (b : ByteArray) (t : Nat) (h0 : 0 < t) (ht : t ≤ 64) : (bytesOf ((blk 0).extract 0 t ++ b.extract t b.size))[0]? ≠ some 90 := by
  rw [bytes_app, bytes_extract, bytes_blk0, List.drop_zero, Nat.sub_zero, List.take_replicate, Nat.min_eq_left ht, List.getElem?_append_left (by rw [List.length_replicate]; exact h0), List.getElem?_replicate, if_pos h0]
  decide
/-- A head torn over zeros: no head. -/
theorem torn_last (q z t : Nat) (ht : t < 64) : (bytesOf ((headB q z).extract 0 t ++ (blk 0).extract t (blk 0).size))[63]? ≠ some 69 := by
  rw [bytes_app, bytes_extract, bytes_extract, bytes_blk0, List.drop_zero, Nat.sub_zero, blk_size]
  have hl : ((bytesOf (headB q z)).take t).length = t := by rw [List.length_take, bytesOf_length, headB_size]; omega
  rw [List.getElem?_append_right (by omega), hl, List.getElem?_take_of_lt (by omega), List.getElem?_drop, List.getElem?_replicate, if_pos (by omega)]
  decide
theorem chunk_list (s : ByteArray) (j : Nat) (h : 64 * j ≤ s.size) : ∃ pad : List UInt8, (chunk s j).data.toList = (s.data.toList.drop (64 * j)).take 64 ++ pad ∧ (64 * (j + 1) ≤ s.size → pad = []) := by
  have hr := rest_size s j
  refine ⟨((blk 0).extract (min 64 (rest s j).size) (blk 0).size).data.toList, ?_, fun h2 => ?_⟩
  · unfold chunk
    rw [ByteArray.data_append, Array.toList_append, data_extract, rest_list, List.drop_zero, Nat.sub_zero, hr]
    congr 1
    by_cases h3 : 64 ≤ s.size - 64 * j
    · rw [Nat.min_eq_left h3]
    · rw [Nat.min_eq_right (by omega), List.take_of_length_le (by rw [List.length_drop, data_len]; omega), List.take_of_length_le (by rw [List.length_drop, data_len]; omega)]
  · rw [data_extract, blk_size, Nat.min_eq_left (by omega), Nat.sub_self, List.take_zero]
theorem cat_take (s : ByteArray) (g : Nat → ByteArray) (p : Nat) (hg : ∀ j, j < blocks s → g (p + j) = chunk s j) (hs : s.size ≤ 4096) : (cat g p).take s.size = s.data.toList := by
  have key : ∀ c, c ≤ 64 → ((List.range c).flatMap fun j => (g (p + j)).data.toList).take (min s.size (64 * c)) = s.data.toList.take (64 * c) ∧ (64 * c ≤ s.size → ((List.range c).flatMap fun j => (g (p + j)).data.toList).length = 64 * c) := by
    intro c
    induction c with
    | zero => intro _; exact ⟨by simp, fun _ => rfl⟩
    | succ c ih =>
      intro hc
      obtain ⟨i1, i2⟩ := ih (by omega)
      rw [List.range_succ, List.flatMap_append]
      have e1 : ([c].flatMap fun j => (g (p + j)).data.toList) = (g (p + c)).data.toList := by simp
      rw [e1]
      by_cases h : 64 * c < s.size
      · obtain ⟨pad, hp, hp2⟩ := chunk_list s c (by omega)
        have hgc := hg c (by unfold blocks; omega)
        have hlen := i2 (by omega)
        rw [Nat.min_eq_right (by omega)] at i1
        have i3 : ((List.range c).flatMap fun j => (g (p + j)).data.toList) = s.data.toList.take (64 * c) := by
          rw [← i1, List.take_of_length_le (by omega)]
        rw [i3, hgc, hp]
        have l3 : (s.data.toList.take (64 * c)).length = 64 * c := by rw [List.length_take, data_len]; omega
        have e2 : s.data.toList.take (64 * (c + 1)) = s.data.toList.take (64 * c) ++ (s.data.toList.drop (64 * c)).take 64 := by
          rw [show 64 * (c + 1) = 64 * c + 64 from by omega, List.take_add]
        refine ⟨?_, fun h2 => ?_⟩
        · rw [e2, ← List.append_assoc, List.take_append_of_le_length (by rw [List.length_append, l3, List.length_take, List.length_drop, data_len]; omega), ← e2]
          by_cases h3 : 64 * (c + 1) ≤ s.size
          · rw [Nat.min_eq_right h3, List.take_of_length_le (by rw [List.length_take, data_len]; omega)]
          · rw [Nat.min_eq_left (by omega), List.take_of_length_le (by rw [List.length_take, data_len]; omega)]
        · rw [hp2 h2, List.append_nil, List.length_append, l3, List.length_take, List.length_drop, data_len]
          omega
      · refine ⟨?_, fun h2 => absurd h2 (by omega)⟩
        rw [Nat.min_eq_left (by omega)] at i1 ⊢
        rw [List.take_of_length_le (l := s.data.toList) (i := 64 * (c + 1)) (by rw [data_len]; omega)]
        rw [List.take_of_length_le (l := s.data.toList) (i := 64 * c) (by rw [data_len]; omega)] at i1
        have hge : s.size ≤ ((List.range c).flatMap fun j => (g (p + j)).data.toList).length := by
          have := congrArg List.length i1
          rw [List.length_take, data_len] at this
          omega
        rw [List.take_append_of_le_length hge]
        exact i1
  have := (key 64 (by omega)).1
  rw [Nat.min_eq_left (by omega), List.take_of_length_le (l := s.data.toList) (by rw [data_len]; omega)] at this
  exact this
/-- The slot that a whole plan has written. -/
theorem slot_whole (d : List ByteArray) (hd : d.length = 130) (q : Nat) (h1 : 1 ≤ q) (h2 : q ≤ 1048576) (s : ByteArray) (hs : s.size ≤ 4096) (g : Nat → ByteArray) (hg : ∀ j, g j = if j = q % 2 * 65 then headB q s.size else blkOf (puts d (open_ (q % 2 * 65) s (blocks s))) j) : slotOf g (q % 2 * 65) = some (q, s) := by
  have hb : blocks s ≤ 64 := by unfold blocks; omega
  have e0 : g (q % 2 * 65) = headB q s.size := by rw [hg, if_pos rfl]
  have ec : ∀ j, j < blocks s → g (q % 2 * 65 + 1 + j) = chunk s j := fun j hj => by
    rw [hg, if_neg (by omega), open_blk d hd _ (by omega) s _ hb, if_neg (by omega), if_pos (by omega)]
    congr 1
    omega
  have hc := cat_take s g (q % 2 * 65 + 1) ec hs
  unfold slotOf
  rw [e0, qOf_head q _ (by omega), zOf_head q _ (by omega), hc, if_pos ⟨h1, h2, hs, rfl, rfl⟩]
/-- What a run of a plan, cut and torn anywhere, leaves: in the other slot what was there; in its own what was there, nothing, or the image. -/
theorem cut_plan (d : List ByteArray) (hd : fine d) (q : Nat) (h1 : 1 ≤ q) (h2 : q ≤ 1048576) (s : ByteArray) (hs : s.size ≤ 4096) (k t : Nat) (hk : k ≤ blocks s + 2) (ht : t ≤ 64) :
    slotOf (blkOf (ran d (plan q s) k t)) ((q + 1) % 2 * 65) = slotOf (blkOf d) ((q + 1) % 2 * 65) ∧
    slotOf (blkOf (ran d (plan q s) k t)) (q % 2 * 65) = if k = blocks s + 2 ∨ k = blocks s + 1 ∧ t = 64 then some (q, s) else if k = 0 ∧ t = 0 then slotOf (blkOf d) (q % 2 * 65) else none := by
  have hb : blocks s ≤ 64 := by unfold blocks; omega
  have hlen := plan_length q s
  have hdl := hd.1
  generalize hp : q % 2 * 65 = p
  have hp65 : p = 0 ∨ p = 65 := by omega
  have hop : (q + 1) % 2 * 65 = 65 - p := by omega
  rw [hop]
  have hopl : ∀ c, (open_ p s c).length = c + 1 := fun c => by unfold open_; rw [List.length_cons, chunks_length]
  have hplan : plan q s = open_ p s (blocks s) ++ [⟨(p : Int), headB q s.size⟩] := by unfold plan; rw [hp]
  -- the parts of the plan
  have htake : ∀ c, c ≤ blocks s → (plan q s).take (c + 1) = open_ p s c := fun c hc => by
    rw [hplan, List.take_append_of_le_length (by rw [hopl]; omega)]
    unfold open_
    rw [List.take_succ_cons]
    unfold chunks
    rw [← List.map_take, List.take_range, Nat.min_eq_left hc]
  have whole : ∀ g : Nat → ByteArray, (∀ j, g j = if j = p then headB q s.size else blkOf (puts d (open_ p s (blocks s))) j) → slotOf g (65 - p) = slotOf (blkOf d) (65 - p) ∧ slotOf g p = some (q, s) := fun g hg => by
    refine ⟨slotOf_far fun j hj1 hj2 => ?_, ?_⟩
    · rw [hg, if_neg (by omega), open_blk d hdl p (by omega) s _ hb, if_neg (by omega), if_neg (by omega)]
    · rw [← hp] at hg ⊢
      exact slot_whole d hdl q h1 h2 s hs g hg
  by_cases hk2 : k = blocks s + 2
  · rw [if_pos (.inl hk2)]
    refine whole _ fun j => ?_
    unfold ran
    rw [dif_neg (by omega), List.take_of_length_le (by omega), hplan, puts_append, puts_cons, puts_nil]
    show blkOf ((puts d (open_ p s (blocks s))).set ((p : Int)).toNat (headB q s.size)) j = _
    rw [Int.toNat_natCast, blk_set _ _ _ (by rw [puts_length]; omega)]
    by_cases h : p = j
    · rw [if_pos h, if_pos h.symm]
    · rw [if_neg h, if_neg (fun e => h e.symm)]
  by_cases hk1 : k = blocks s + 1
  · -- the head, torn
    have hget : (plan q s)[k]'(by omega) = ⟨(p : Int), headB q s.size⟩ := by
      have : (plan q s)[k]? = some ⟨(p : Int), headB q s.size⟩ := by
        rw [hplan, hk1, List.getElem?_append_right (by rw [hopl]; omega), hopl, Nat.sub_self]
        rfl
      rw [List.getElem?_eq_getElem (by omega)] at this
      exact Option.some.inj this
    have hold : blkOf (puts d (open_ p s (blocks s))) p = blk 0 := by rw [open_blk d hdl p (by omega) s _ hb, if_pos rfl]
    have hr : ∀ j, blkOf (ran d (plan q s) k t) j = if p = j then (headB q s.size).extract 0 t ++ (blk 0).extract t (blk 0).size else blkOf (puts d (open_ p s (blocks s))) j := fun j => by
      unfold ran
      rw [dif_pos (by omega), hget]
      show blkOf ((puts d ((plan q s).take k)).set ((p : Int)).toNat ((headB q s.size).extract 0 t ++ (blkOf (puts d ((plan q s).take k)) ((p : Int)).toNat).extract t (blkOf (puts d ((plan q s).take k)) ((p : Int)).toNat).size)) j = _
      rw [Int.toNat_natCast, hk1, htake _ (Nat.le_refl _), hold, blk_set _ _ _ (by rw [puts_length]; omega)]
    by_cases ht64 : t = 64
    · rw [if_pos (.inr ⟨hk1, ht64⟩)]
      refine whole _ fun j => ?_
      rw [hr, ht64]
      have e : (headB q s.size).extract 0 64 ++ (blk 0).extract 64 (blk 0).size = headB q s.size := by
        apply Go.WideShapes.bytes_inj
        rw [ByteArray.data_append, Array.toList_append, data_extract, data_extract, blk_size, Nat.sub_self, List.take_zero, List.append_nil, List.drop_zero, Nat.sub_zero]
        exact List.take_of_length_le (by rw [data_len, headB_size]; omega)
      rw [e]
      by_cases h : p = j
      · rw [if_pos h, if_pos h.symm]
      · rw [if_neg h, if_neg (fun e => h e.symm)]
    · rw [if_neg (by omega), if_neg (by omega)]
      refine ⟨slotOf_far fun j hj1 hj2 => ?_, slotOf_none (.inr ?_)⟩
      · rw [hr, if_neg (by omega), open_blk d hdl p (by omega) s _ hb, if_neg (by omega), if_neg (by omega)]
      · rw [hr, if_pos rfl]
        exact torn_last q s.size t (by omega)
  by_cases hk0 : k = 0
  · subst hk0
    have hget : (plan q s)[0]'(by omega) = ⟨(p : Int), blk 0⟩ := by
      have : (plan q s)[0]? = some ⟨(p : Int), blk 0⟩ := by rw [hplan]; rfl
      rw [List.getElem?_eq_getElem (by omega)] at this
      exact Option.some.inj this
    have hr : ∀ j, blkOf (ran d (plan q s) 0 t) j = if p = j then (blk 0).extract 0 t ++ (blkOf d p).extract t (blkOf d p).size else blkOf d j := fun j => by
      unfold ran
      rw [dif_pos (by omega), hget, List.take_zero, puts_nil]
      show blkOf (d.set ((p : Int)).toNat ((blk 0).extract 0 t ++ (blkOf d ((p : Int)).toNat).extract t (blkOf d ((p : Int)).toNat).size)) j = _
      rw [Int.toNat_natCast, blk_set _ _ _ (by omega)]
    rw [if_neg (by omega)]
    refine ⟨slotOf_far fun j hj1 hj2 => by rw [hr, if_neg (by omega)], ?_⟩
    by_cases ht0 : t = 0
    · rw [if_pos ⟨rfl, ht0⟩]
      refine slotOf_far fun j hj1 hj2 => ?_
      rw [hr, ht0]
      by_cases h : p = j
      · rw [if_pos h, ← h]
        apply Go.WideShapes.bytes_inj
        rw [ByteArray.data_append, Array.toList_append, data_extract, data_extract, Nat.sub_self, List.take_zero, List.nil_append, List.drop_zero, Nat.sub_zero]
        exact List.take_of_length_le (by rw [data_len]; omega)
      · rw [if_neg h]
    · rw [if_neg (by omega)]
      refine slotOf_none (.inl ?_)
      rw [hr, if_pos rfl]
      exact torn_first _ t (by omega) ht
  · -- among the blocks
    obtain ⟨c, hc⟩ : ∃ c, k = c + 1 := ⟨k - 1, by omega⟩
    have hcb : c < blocks s := by omega
    have hget : (plan q s)[k]'(by omega) = ⟨((p + 1 + c : Nat) : Int), chunk s c⟩ := by
      have : (plan q s)[k]? = some ⟨((p + 1 + c : Nat) : Int), chunk s c⟩ := by
        rw [hplan, hc, List.getElem?_append_left (by rw [hopl]; omega)]
        unfold open_ chunks
        rw [List.getElem?_cons_succ, List.getElem?_map, List.getElem?_range hcb]
        rfl
      rw [List.getElem?_eq_getElem (by omega)] at this
      exact Option.some.inj this
    have hr : ∃ b, ∀ j, blkOf (ran d (plan q s) k t) j = if p + 1 + c = j then b else blkOf (puts d (open_ p s c)) j := by
      have e : puts d ((plan q s).take k) = puts d (open_ p s c) := by rw [hc, htake c (by omega)]
      refine ⟨(chunk s c).extract 0 t ++ (blkOf (puts d (open_ p s c)) (p + 1 + c)).extract t (blkOf (puts d (open_ p s c)) (p + 1 + c)).size, fun j => ?_⟩
      unfold ran
      rw [dif_pos (by omega), hget]
      show blkOf ((puts d ((plan q s).take k)).set (((p + 1 + c : Nat) : Int)).toNat ((chunk s c).extract 0 t ++ (blkOf (puts d ((plan q s).take k)) (((p + 1 + c : Nat) : Int)).toNat).extract t (blkOf (puts d ((plan q s).take k)) (((p + 1 + c : Nat) : Int)).toNat).size)) j = _
      rw [Int.toNat_natCast, e, blk_set _ _ _ (by rw [puts_length]; omega)]
    obtain ⟨b, hr⟩ := hr
    rw [if_neg (by omega), if_neg (by omega)]
    refine ⟨slotOf_far fun j hj1 hj2 => ?_, slotOf_none (.inl ?_)⟩
    · rw [hr, if_neg (by omega), open_blk d hdl p (by omega) s c (by omega), if_neg (by omega), if_neg (by omega)]
    · rw [hr, if_neg (by omega), open_blk d hdl p (by omega) s c (by omega), if_pos rfl, bytes_blk0]
      decide
end Go.Proofs.Ytdccnjinehcenaa.LF
