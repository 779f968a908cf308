/- Chapter 18 over plain lists: heads, plans, what is found. -/
import Derived.Test.YtdccnjinehcenaaDiskPLF
import Derived.Test.YtdccnjinehcenaaDiskMLF
import Derived.Test.YtdccnjinehcenaaRefDLF
import Derived.Test.YtdccnjinehcenaaLowLLF
import Derived.Test.YtdccnjinehcenaaLF8
import Derived.Test.YtdccnjinehcenaaLF4
import Derived.Test.YtdccnjinehcenaaLF3
import Derived.Test.YtdccnjinehcenaaLF7
namespace Go.Proofs.Ytdccnjinehcenaa.LF
set_option linter.unusedVariables false
set_option linter.unusedSimpArgs false
open Go.RowKit Go.Proofs.YtdccnjinehcenaaW.PrintWords Go.Proofs.YtdccnjinehcenaaW.PrintLast Go.Proofs.YtdccnjinehcenaaW.PrintMore
theorem blank_eq : disk_Blank.f = some (blk 0) := by
  have h1 : strings_Repeat.f (⟨#[0]⟩ : ByteArray) 64 = some (blk 0) := by
    unfold strings_Repeat.f
    rw [if_pos (by decide), if_pos (by decide), if_pos (by decide)]
    decide +kernel
  unfold disk_Blank.f
  rw [h1]
  rfl
/-- A head's bytes. -/
def hd (q z : Nat) : List Int := [90] ++ (lowL (q : Int) 4 ++ (lowL (z : Int) 4 ++ (List.replicate 54 0 ++ [69])))
def headB (q z : Nat) : ByteArray := strOfNums (hd q z)
theorem hd_length (q z : Nat) : (hd q z).length = 64 := by
  unfold hd
  simp only [List.length_append, lowL_length, List.length_replicate, List.length_cons, List.length_nil]
theorem headB_size (q z : Nat) : (headB q z).size = 64 := by unfold headB; rw [strOfNums_size, hd_length]
theorem head_eq (q z : Nat) (K : Nat) (hK : 10 ≤ K) : slot_head.f K (q : Int) (z : Int) = some (headB q z) := by
  have l4 : ∀ x : Int, (strOfNums (lowL x 4)).size = 4 := fun x => by rw [strOfNums_size, lowL_length]
  have e1 : ((⟨#[90]⟩ : ByteArray)) = strOfNums [90] := by decide +kernel
  have e2 : ((⟨#[69]⟩ : ByteArray)) = strOfNums [69] := by decide +kernel
  have s1 : (strOfNums [90]).size = 1 := by rw [strOfNums_size]; rfl
  have s2 : (strOfNums [69]).size = 1 := by rw [strOfNums_size]; rfl
  have low : ∀ x : Int, extra_Low.f K x 4 = some (strOfNums (lowL x 4)) := fun x => low_k x 4 (by omega) hK
  unfold slot_head.f
  rw [low, Option.bind_some, l4, if_pos (by omega), low, Option.bind_some, e1, e2, ByteArray.size_append, l4, l4, s1, if_pos (by omega), blank_eq, Option.bind_some]
  have sz : ((((strOfNums [90] ++ strOfNums (lowL (q : Int) 4)) ++ strOfNums (lowL (z : Int) 4)).size : Nat) : Int) = 9 := by
    rw [ByteArray.size_append, ByteArray.size_append, l4, l4, s1]
    rfl
  have w1 : wrap64 (wrap64 (64 - 9) - 1) = 54 := by decide +kernel
  have be : (blk 0).extract 0 (54 : Int).toNat = strOfNums (List.replicate 54 0) := by
    unfold blk
    rw [str_take, List.take_replicate]
    rfl
  rw [sz, w1, if_pos (by decide), if_pos (by rw [blk_size]; decide), be]
  have s54 : (strOfNums (List.replicate 54 0)).size = 54 := by rw [strOfNums_size, List.length_replicate]
  rw [if_pos (by rw [ByteArray.size_append, ByteArray.size_append, l4, l4, s1, s54]; omega), if_pos (by rw [ByteArray.size_append, ByteArray.size_append, ByteArray.size_append, l4, l4, s1, s54]; omega)]
  unfold headB hd
  rw [strs_append, strs_append, strs_append, strs_append, ByteArray.append_assoc, ByteArray.append_assoc, ByteArray.append_assoc]
/-- The number that four bytes tell. -/
def n4 (l : List Int) : Nat := ((l.getD 0 0).toNat + 256 * (l.getD 1 0).toNat + 65536 * (l.getD 2 0).toNat + 16777216 * (l.getD 3 0).toNat)
theorem n4_lt {l : List Int} (h : isBytes l) : n4 l < 4294967296 := by
  have b : ∀ i, (l.getD i 0).toNat < 256 := fun i => by
    rw [List.getD_eq_getElem?_getD]
    cases hi : l[i]? with
    | none => exact Nat.zero_lt_of_lt (by decide : (0 : Nat) < 256)
    | some x =>
      have := h x (List.mem_of_getElem? hi)
      show x.toNat < 256
      omega
  have b0 := b 0
  have b1 := b 1
  have b2 := b 2
  have b3 := b 3
  unfold n4
  omega
theorem lowL4 (X : Nat) : lowL (X : Int) 4 = [((X % 256 : Nat) : Int), ((X / 256 % 256 : Nat) : Int), ((X / 65536 % 256 : Nat) : Int), ((X / 16777216 % 256 : Nat) : Int)] := by
  have e0 := lowB_nat X 0 (by omega)
  have e1 := lowB_nat X 1 (by omega)
  have e2 := lowB_nat X 2 (by omega)
  have e3 := lowB_nat X 3 (by omega)
  rw [show (2 : Nat) ^ (8 * 0) = 1 from rfl, Nat.div_one] at e0
  rw [show (2 : Nat) ^ (8 * 1) = 256 from rfl] at e1
  rw [show (2 : Nat) ^ (8 * 2) = 65536 from rfl] at e2
  rw [show (2 : Nat) ^ (8 * 3) = 16777216 from rfl] at e3
  show [lowB (X : Int) 0, lowB (X : Int) 1, lowB (X : Int) 2, lowB (X : Int) 3] = _
  rw [e0, e1, e2, e3]
theorem n4_low (X : Nat) (h : X < 4294967296) (r : List Int) : n4 (lowL (X : Int) 4 ++ r) = X := by
  rw [lowL4]
  show (((X % 256 : Nat) : Int)).toNat + 256 * (((X / 256 % 256 : Nat) : Int)).toNat + 65536 * (((X / 65536 % 256 : Nat) : Int)).toNat + 16777216 * (((X / 16777216 % 256 : Nat) : Int)).toNat = X
  rw [Int.toNat_natCast, Int.toNat_natCast, Int.toNat_natCast, Int.toNat_natCast]
  omega
theorem low_n4 {l : List Int} (h : isBytes l) (hl : 4 ≤ l.length) : l = lowL ((n4 l : Nat) : Int) 4 ++ l.drop 4 := by
  match l, hl with
  | a :: b :: c :: d :: r, _ =>
    have ha := h a (by simp)
    have hb := h b (by simp)
    have hc := h c (by simp)
    have hd := h d (by simp)
    rw [lowL4]
    have e : n4 (a :: b :: c :: d :: r) = a.toNat + 256 * b.toNat + 65536 * c.toNat + 16777216 * d.toNat := rfl
    rw [e]
    show a :: b :: c :: d :: r = _ :: _ :: _ :: _ :: r
    congr 1
    · omega
    · congr 1
      · omega
      · congr 1
        · omega
        · congr 1
          omega
theorem bytes_is (b : ByteArray) : isBytes (bytesOf b) := by
  intro x hx
  unfold bytesOf at hx
  obtain ⟨u, _, rfl⟩ := List.mem_map.mp hx
  have := UInt8.toNat_lt u
  omega
theorem str_bytes (b : ByteArray) : strOfNums (bytesOf b) = b := by
  apply Go.WideShapes.bytes_inj
  rw [strOfNums_data]
  unfold bytesOf
  rw [List.map_map]
  conv => rhs; rw [← List.map_id b.data.toList]
  refine List.map_congr_left fun u _ => ?_
  show UInt8.ofNat (((u.toNat : Int)).toNat) = u
  rw [Int.toNat_natCast]
  simp
theorem drop_is {l : List Int} (h : isBytes l) (n : Nat) : isBytes (l.drop n) := fun x hx => h x (List.mem_of_mem_drop hx)
/-- The number and the length that a block tells. -/
def qOf (b : ByteArray) : Nat := n4 ((bytesOf b).drop 1)
def zOf (b : ByteArray) : Nat := n4 ((bytesOf b).drop 5)
theorem parts (b : ByteArray) (h : b.size = 64) : ∃ x0 r, r.length = 55 ∧ bytesOf b = [x0] ++ (lowL ((qOf b : Nat) : Int) 4 ++ (lowL ((zOf b : Nat) : Int) 4 ++ r)) := by
  have hl : (bytesOf b).length = 64 := by rw [bytesOf_length]; exact h
  have hb := bytes_is b
  obtain ⟨x0, t, ht⟩ : ∃ x0 t, bytesOf b = x0 :: t := by
    cases hq : bytesOf b with
    | nil => rw [hq] at hl; exact absurd hl (by decide)
    | cons x t => exact ⟨x, t, rfl⟩
  have e1 : (bytesOf b).drop 1 = t := by rw [ht]; rfl
  have ht1 : t.length = 63 := by rw [ht, List.length_cons] at hl; omega
  have h1 := low_n4 (drop_is hb 1) (by rw [List.length_drop, hl]; omega)
  rw [List.drop_drop] at h1
  have h2 := low_n4 (drop_is hb 5) (by rw [List.length_drop, hl]; omega)
  rw [List.drop_drop] at h2
  refine ⟨x0, (bytesOf b).drop 9, by rw [List.length_drop, hl], ?_⟩
  unfold qOf zOf
  rw [show (5 + 4) = 9 from rfl] at h2
  rw [← h2, ← h1, e1, ht]
  rfl
theorem qOf_head (q z : Nat) (hq : q < 4294967296) : qOf (headB q z) = q := by
  unfold qOf headB
  rw [bytesOf_str (by
    intro x hx
    unfold hd at hx
    simp only [List.mem_append, List.mem_singleton] at hx
    rcases hx with rfl | hx | hx | hx | rfl
    · omega
    · exact lowL_bytes _ _ x hx
    · exact lowL_bytes _ _ x hx
    · rw [List.eq_of_mem_replicate hx]; omega
    · omega)]
  show n4 (lowL (q : Int) 4 ++ _) = q
  exact n4_low q hq _
theorem zOf_head (q z : Nat) (hz : z < 4294967296) : zOf (headB q z) = z := by
  unfold zOf headB
  rw [bytesOf_str (by
    intro x hx
    unfold hd at hx
    simp only [List.mem_append, List.mem_singleton] at hx
    rcases hx with rfl | hx | hx | hx | rfl
    · omega
    · exact lowL_bytes _ _ x hx
    · exact lowL_bytes _ _ x hx
    · rw [List.eq_of_mem_replicate hx]; omega
    · omega)]
  have e : (hd q z).drop 5 = lowL (z : Int) 4 ++ (List.replicate 54 0 ++ [69]) := by
    unfold hd
    show (lowL (q : Int) 4 ++ _).drop 4 = _
    exact List.drop_left' (lowL_length _ _)
  rw [e]
  exact n4_low z hz _
/-- The bytes of 64 blocks from a place on. -/
def cat (g : Nat → ByteArray) (p : Nat) : List UInt8 := (List.range 64).flatMap fun j => (g (p + j)).data.toList
/-- What a slot holds: a number and an image, if its head is one. -/
def slotOf (g : Nat → ByteArray) (p : Nat) : Option (Nat × ByteArray) :=
  if 1 ≤ qOf (g p) ∧ qOf (g p) ≤ 1048576 ∧ zOf (g p) ≤ 4096 ∧ qOf (g p) % 2 * 65 = p ∧ headB (qOf (g p)) (zOf (g p)) = g p then some (qOf (g p), ⟨((cat g (p + 1)).take (zOf (g p))).toArray⟩) else none
def blkOf (d : List ByteArray) (i : Nat) : ByteArray := d.getD i ByteArray.empty
theorem toList_eq {a b : ByteArray} : a.toList = b.toList ↔ a = b := by
  rw [Lib.toList_data, Lib.toList_data]
  exact ⟨fun h => Go.WideShapes.bytes_inj h, fun h => by rw [h]⟩
theorem cat_length (g : Nat → ByteArray) (p : Nat) (h : ∀ j, j < 64 → (g (p + j)).size = 64) : (cat g p).length = 4096 := by
  unfold cat
  rw [List.length_flatMap]
  have : (List.range 64).map (fun j => (g (p + j)).data.toList.length) = (List.range 64).map (fun _ => 64) := List.map_congr_left fun j hj => by
    have hj := List.mem_range.mp hj
    have := h j hj
    rw [Array.length_toList]
    exact this
  rw [this]
  decide
theorem join_nil_sep (xs : List (List UInt8)) : Lib.join xs [] = xs.flatten := by
  cases xs with
  | nil => rfl
  | cons x r =>
    rw [Lib.join_cons]
    unfold Lib.joinTail
    simp
theorem join_eq (d : List ByteArray) (hd : d.length = 130) (p : Nat) (hp : p ≤ 66) : Lib.join ((((d.take (p + 64)).drop p)).map (·.data.toList)) [] = cat (blkOf d) p := by
  rw [join_nil_sep]
  unfold cat
  rw [List.flatMap_def]
  congr 1
  apply List.ext_getElem
  · rw [List.length_map, List.length_drop, List.length_take, List.length_map, List.length_range]
    omega
  · intro i h1 h2
    rw [List.length_map, List.length_range] at h2
    rw [List.getElem_map, List.getElem_map, List.getElem_range, List.getElem_drop, List.getElem_take]
    unfold blkOf
    rw [List.getD_eq_getElem?_getD, List.getElem?_eq_getElem (by omega)]
    rfl
theorem from_nat (q : Nat) (hq : q < 4294967296) : slot_from.f (q : Int) = some ((q % 2 * 65 : Nat) : Int) := by
  unfold slot_from.f
  rw [Int.tmod_eq_emod_of_nonneg (by omega)]
  congr 1
  unfold wrap64
  omega
theorem text_take (l : List Int) (bad : Bool) (n : Nat) (h : n ≤ l.length) : extra_Taker_Text.f (strOfNums l) bad (n : Int) = some (strOfNums (l.take n), strOfNums (l.drop n), bad) := by
  have hz : (strOfNums l).size = l.length := strOfNums_size l
  unfold extra_Taker_Text.f
  rw [if_neg (by omega), if_pos (by omega), if_pos (by omega), Int.toNat_natCast, str_take, str_drop]
theorem look_eq (d : List ByteArray) (hd : fine d) (p : Nat) (hp : p ≤ 65) (K : Nat) (hK : 20 ≤ K) :
    slot_look.f K d (p : Int) = some (match slotOf (blkOf d) p with | some (q, s) => ((q : Int), s, true) | none => (0, (⟨#[]⟩ : ByteArray), false)) := by
  have hb : blkOf d p = d[p]'(by have := hd.1; omega) := by
    unfold blkOf
    rw [List.getD_eq_getElem?_getD, List.getElem?_eq_getElem (by have := hd.1; omega)]
    rfl
  have hs : (blkOf d p).size = 64 := by rw [hb]; exact hd.2 _ (List.getElem_mem _)
  obtain ⟨x0, r, hr, hp2⟩ := parts (blkOf d p) hs
  have hq32 : qOf (blkOf d p) < 4294967296 := n4_lt (drop_is (bytes_is _) 1)
  have hz32 : zOf (blkOf d p) < 4294967296 := n4_lt (drop_is (bytes_is _) 5)
  have hcat := cat_length (blkOf d) (p + 1) (fun j hj => by
    unfold blkOf
    rw [List.getD_eq_getElem?_getD, List.getElem?_eq_getElem (by have := hd.1; omega)]
    exact hd.2 _ (List.getElem_mem _))
  unfold slotOf
  generalize hq : qOf (blkOf d p) = q at *
  generalize hz : zOf (blkOf d p) = z at *
  have e0 : rdOf ByteArray.empty d (p : Int) = strOfNums ([x0] ++ (lowL (q : Int) 4 ++ (lowL (z : Int) 4 ++ r))) := by
    rw [rdOf_nat _ _ _ (by have := hd.1; omega), ← hb, ← hp2, str_bytes]
  have e1 : rdOf ByteArray.empty d (p : Int) = blkOf d p := by rw [rdOf_nat _ _ _ (by have := hd.1; omega), hb]
  have t1 : extra_Taker_Text.f (rdOf ByteArray.empty d (p : Int)) false 1 = some (strOfNums [x0], strOfNums (lowL (q : Int) 4 ++ (lowL (z : Int) 4 ++ r)), false) := by
    rw [e0]
    exact text_take _ false 1 (by simp)
  have t2 := num_k q 4 (by omega) (by show q < 4294967296; exact hq32) (lowL (z : Int) 4 ++ r) (by rw [List.length_append, lowL_length]; omega) false (k := K) (by omega)
  have t3 := num_k z 4 (by omega) (by show z < 4294967296; exact hz32) r (by omega) false (k := K) (by omega)
  unfold slot_look.f
  rw [if_pos (by omega), if_pos (by have := hd.1; omega), t1, Option.bind_some]
  dsimp only
  change ((extra_Taker_Num.f K (strOfNums (lowL (q : Int) 4 ++ (lowL (z : Int) 4 ++ r))) false ((4 : Nat) : Int)).bind _) = _
  rw [t2, Option.bind_some]
  dsimp only
  change ((extra_Taker_Num.f K (strOfNums (lowL (z : Int) 4 ++ r)) false ((4 : Nat) : Int)).bind _) = _
  rw [t3, Option.bind_some]
  dsimp only
  have hmay : slot_may.f (q : Int) (z : Int) = some (decide (1 ≤ q ∧ q ≤ 1048576 ∧ z ≤ 4096)) := by
    unfold slot_may.f
    by_cases h1 : (q : Int) ≥ 1
    · rw [if_pos h1]
      by_cases h2 : (q : Int) ≤ 1048576
      · rw [if_pos h2]
        congr 1
        exact decide_eq_decide.mpr ⟨fun h => ⟨by omega, by omega, by omega⟩, fun h => by omega⟩
      · rw [if_neg h2, decide_eq_false (fun h => h2 (by omega))]
    · rw [if_neg h1, decide_eq_false (fun h => h1 (by omega))]
  rw [hmay, Option.bind_some]
  by_cases h1 : 1 ≤ q ∧ q ≤ 1048576 ∧ z ≤ 4096
  · rw [decide_eq_true h1, if_pos rfl, from_nat q hq32, Option.bind_some]
    by_cases h2 : q % 2 * 65 = p
    · rw [if_pos (by omega), head_eq q z K (by omega), Option.bind_some, e1]
      by_cases h3 : headB q z = blkOf d p
      · have hc : 1 ≤ q ∧ q ≤ 1048576 ∧ z ≤ 4096 ∧ q % 2 * 65 = p ∧ headB q z = blkOf d p := ⟨h1.1, h1.2.1, h1.2.2, h2, h3⟩
        rw [if_pos (toList_eq.mpr h3), if_pos hc]
        have w1 : wrap64 ((p : Int) + 1) = ((p + 1 : Nat) : Int) := by clear hmay; unfold wrap64; omega
        have w2 : wrap64 (((p + 1 : Nat) : Int) + 64) = ((p + 1 + 64 : Nat) : Int) := by clear hmay; unfold wrap64; omega
        rw [w1, w2, if_pos (by omega), if_pos (by omega), if_pos (by have := hd.1; omega), Int.toNat_natCast, Int.toNat_natCast]
        have hj := join_eq d hd.1 (p + 1) (by omega)
        have hj2 : strings_Join.f ((d.take (p + 1 + 64)).drop (p + 1)) (⟨#[]⟩ : ByteArray) = some ⟨(cat (blkOf d) (p + 1)).toArray⟩ := by
          unfold strings_Join.f
          have hle : ((d.take (p + 1 + 64)).drop (p + 1)).length ≤ 64 := by rw [List.length_drop, List.length_take]; omega
          rw [if_pos (by omega)]
          change (if (Lib.join (((d.take (p + 1 + 64)).drop (p + 1)).map (·.data.toList)) []).length ≤ 140737488355328 then some (⟨(Lib.join (((d.take (p + 1 + 64)).drop (p + 1)).map (·.data.toList)) []).toArray⟩ : ByteArray) else none) = _
          rw [hj, if_pos (by omega)]
        have hsz : (⟨(cat (blkOf d) (p + 1)).toArray⟩ : ByteArray).size = 4096 := by
          show (cat (blkOf d) (p + 1)).toArray.size = 4096
          rw [List.size_toArray, hcat]
        rw [hj2, Option.bind_some, if_pos (by omega), if_pos (by omega), Int.toNat_natCast]
        have hx : (⟨(cat (blkOf d) (p + 1)).toArray⟩ : ByteArray).extract 0 z = ⟨((cat (blkOf d) (p + 1)).take z).toArray⟩ := by
          apply Go.WideShapes.bytes_inj
          rw [ByteArray.data_extract, Array.toList_extract, List.extract_eq_take_drop, List.drop_zero, Nat.sub_zero]
        rw [hx]
      · have hc : ¬ (1 ≤ q ∧ q ≤ 1048576 ∧ z ≤ 4096 ∧ q % 2 * 65 = p ∧ headB q z = blkOf d p) := fun h => h3 h.2.2.2.2
        rw [if_neg (fun h => h3 (toList_eq.mp h)), if_neg hc]
    · have hc : ¬ (1 ≤ q ∧ q ≤ 1048576 ∧ z ≤ 4096 ∧ q % 2 * 65 = p ∧ headB q z = blkOf d p) := fun h => h2 h.2.2.2.1
      rw [if_neg (by omega), if_neg hc]
  · have hc : ¬ (1 ≤ q ∧ q ≤ 1048576 ∧ z ≤ 4096 ∧ q % 2 * 65 = p ∧ headB q z = blkOf d p) := fun h => h1 ⟨h.1, h.2.1, h.2.2.1⟩
    rw [decide_eq_false h1, if_neg (by decide), if_neg hc]
/-- The slot with the greater number. -/
def best (a b : Option (Nat × ByteArray)) : Option (Nat × ByteArray) :=
  match a, b with
  | none, b => b
  | a, none => a
  | some a, some b => if b.1 > a.1 then some b else some a
theorem slotOf_pos {g : Nat → ByteArray} {p : Nat} {x : Nat × ByteArray} (h : slotOf g p = some x) : 1 ≤ x.1 := by
  unfold slotOf at h
  by_cases c : 1 ≤ qOf (g p) ∧ qOf (g p) ≤ 1048576 ∧ zOf (g p) ≤ 4096 ∧ qOf (g p) % 2 * 65 = p ∧ headB (qOf (g p)) (zOf (g p)) = g p
  · rw [if_pos c] at h
    obtain rfl := Option.some.inj h
    exact c.1
  · rw [if_neg c] at h
    exact absurd h (by simp)
theorem find_eq (d : List ByteArray) (hd : fine d) (K : Nat) (hK : 150 ≤ K) :
    slot_Find.f K d = some (match best (slotOf (blkOf d) 0) (slotOf (blkOf d) 65) with | some (q, s) => ((q : Int), s, 0) | none => (0, (⟨#[]⟩ : ByteArray), 1801)) := by
  obtain ⟨m, rfl⟩ : ∃ m, K = m + 1 + 1 + 1 := ⟨K - 3, by omega⟩
  have l0 := fun k hk => look_eq d hd 0 (by omega) k hk
  have l1 := fun k hk => look_eq d hd 65 (by omega) k hk
  have f0 : slot_from.f 0 = some ((0 : Nat) : Int) := from_nat 0 (by omega)
  have f1 : slot_from.f 1 = some ((65 : Nat) : Int) := from_nat 1 (by omega)
  have w1 : wrap64 ((0 : Int) + 1) = 1 := by decide +kernel
  have w2 : wrap64 ((1 : Int) + 1) = 2 := by decide +kernel
  unfold slot_Find.f
  rw [may_eq d (by have := hd.1; omega) _ (by have := hd.1; omega), Option.bind_some, mayB_true.mpr hd, if_pos rfl, slot_Find.l0, if_pos (by decide), f0, Option.bind_some, l0 _ (by omega), Option.bind_some, w1]
  cases h0 : slotOf (blkOf d) 0 with
  | none =>
    dsimp only
    rw [if_neg (by decide), slot_Find.l0, if_pos (by decide), f1, Option.bind_some, l1 _ (by omega), Option.bind_some, w2]
    cases h1 : slotOf (blkOf d) 65 with
    | none =>
      dsimp only
      rw [if_neg (by decide), slot_Find.l0, if_neg (by decide), if_pos rfl]
      rfl
    | some y =>
      have := slotOf_pos h1
      dsimp only
      rw [if_pos rfl, if_pos (by omega), slot_Find.l0, if_neg (by decide), if_neg (by omega)]
      rfl
  | some x =>
    have := slotOf_pos h0
    dsimp only
    rw [if_pos rfl, if_pos (by omega), slot_Find.l0, if_pos (by decide), f1, Option.bind_some, l1 _ (by omega), Option.bind_some, w2]
    cases h1 : slotOf (blkOf d) 65 with
    | none =>
      dsimp only
      rw [if_neg (by decide), slot_Find.l0, if_neg (by decide), if_neg (by omega)]
      rfl
    | some y =>
      dsimp only
      by_cases h2 : (y.1 : Int) > (x.1 : Int)
      · rw [if_pos rfl, if_pos h2, slot_Find.l0, if_neg (by decide), if_neg (by omega)]
        unfold best
        dsimp only
        rw [if_pos (by omega)]
      · rw [if_pos rfl, if_neg h2, slot_Find.l0, if_neg (by decide), if_neg (by omega)]
        unfold best
        dsimp only
        rw [if_neg (by omega)]
theorem find_bad (d : List ByteArray) (hl : d.length ≤ 9000000000000000000) (h : mayB d = false) (K : Nat) (hK : d.length + 1 ≤ K) : slot_Find.f K d = some (0, (⟨#[]⟩ : ByteArray), 1800) := by
  unfold slot_Find.f
  rw [may_eq d hl K hK, Option.bind_some, h, if_neg (by decide)]
end Go.Proofs.Ytdccnjinehcenaa.LF
