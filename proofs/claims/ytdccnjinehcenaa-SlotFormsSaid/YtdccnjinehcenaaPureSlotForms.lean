/- The plain law of portagelaw18.SlotForms: what no slot can hold is refused; a head of which one bit is turned is another head or none. -/
import Derived.Test.YtdccnjinehcenaaDiskPLF
import Derived.Test.YtdccnjinehcenaaDiskMLF
import Derived.Test.YtdccnjinehcenaaRefDLF
import Derived.Test.YtdccnjinehcenaaLowLLF
import Derived.Test.YtdccnjinehcenaaSlotLLF
import Derived.Test.YtdccnjinehcenaaSlotPLF
import Derived.Test.YtdccnjinehcenaaSlotALF
import Derived.Test.YtdccnjinehcenaaLF9
namespace Go.Proofs.Ytdccnjinehcenaa.Pure
set_option linter.unusedVariables false
set_option linter.unusedSimpArgs false
open Go.RowKit Go.Proofs.Ytdccnjinehcenaa.LF Go.Proofs.YtdccnjinehcenaaW.PrintWords Go.Proofs.YtdccnjinehcenaaW.PrintLast Go.Proofs.YtdccnjinehcenaaW.PrintMore
/-- The head of number 2 and length 100 with one bit of its byte i turned. -/
def bk (i : Nat) : ByteArray := strOfNums ((bytesOf (headB 2 100)).set i (Go.bits .xor .u8 (rd (bytesOf (headB 2 100)) (i : Int)) 128))
theorem bk1 : qOf (bk 1) = 130 ∧ zOf (bk 1) = 100 ∧ headB 130 100 = bk 1 := by decide +kernel
theorem bk2 : qOf (bk 2) = 32770 ∧ zOf (bk 2) = 100 ∧ headB 32770 100 = bk 2 := by decide +kernel
theorem bkn : ∀ i, i ∈ [0, 3, 4, 8, 9, 30, 62, 63] → ¬ (1 ≤ qOf (bk i) ∧ qOf (bk i) ≤ 1048576 ∧ zOf (bk i) ≤ 4096 ∧ qOf (bk i) % 2 * 65 = 0 ∧ headB (qOf (bk i)) (zOf (bk i)) = bk i) := by decide +kernel
theorem sl_some (g : Nat → ByteArray) (q z : Nat) (h1 : qOf (g 0) = q) (h2 : zOf (g 0) = z) (h3 : headB q z = g 0) (hq : 1 ≤ q ∧ q ≤ 1048576 ∧ z ≤ 4096 ∧ q % 2 * 65 = 0) : slotOf g 0 = some (q, ⟨((cat g 1).take z).toArray⟩) := by
  unfold slotOf
  rw [h1, h2, if_pos ⟨hq.1, hq.2.1, hq.2.2.1, hq.2.2.2, h3⟩]
theorem bk_size (i : Nat) : (bk i).size = 64 := by
  unfold bk
  rw [strOfNums_size, List.length_set, bytesOf_length]
  exact headB_size 2 100
/-- What the disk of the law holds. -/
theorem disk_head (D : List ByteArray) (hD : fine D) (s : ByteArray) (hs : s.size = 100) (h : slotOf (blkOf D) 0 = some (2, s)) : blkOf D 0 = headB 2 100 ∧ (⟨((cat (blkOf D) 1).take 100).toArray⟩ : ByteArray) = s := by
  unfold slotOf at h
  by_cases c : 1 ≤ qOf (blkOf D 0) ∧ qOf (blkOf D 0) ≤ 1048576 ∧ zOf (blkOf D 0) ≤ 4096 ∧ qOf (blkOf D 0) % 2 * 65 = 0 ∧ headB (qOf (blkOf D 0)) (zOf (blkOf D 0)) = blkOf D 0
  · rw [if_pos c] at h
    have h := Option.some.inj h
    have e1 : qOf (blkOf D 0) = 2 := congrArg Prod.fst h
    have e2 : (⟨((cat (blkOf D) 1).take (zOf (blkOf D 0))).toArray⟩ : ByteArray) = s := congrArg Prod.snd h
    have hc := cat_length (blkOf D) 1 (fun j hj => fine_get hD (by omega))
    have e3 : zOf (blkOf D 0) = 100 := by
      have : (⟨((cat (blkOf D) 1).take (zOf (blkOf D 0))).toArray⟩ : ByteArray).size = 100 := by rw [e2, hs]
      have h2 : ((cat (blkOf D) 1).take (zOf (blkOf D 0))).length = 100 := this
      rw [List.length_take, hc] at h2
      omega
    have e4 := c.2.2.2.2
    rw [e1, e3] at e4
    rw [e3] at e2
    exact ⟨e4.symm, e2⟩
  · rw [if_neg c] at h
    exact absurd h (by simp)
theorem bad_find (D : List ByteArray) (hD : fine D) (s : ByteArray) (hs : s.size = 100) (h : slotOf (blkOf D) 0 = some (2, s)) (h65 : slotOf (blkOf D) 65 = none) (i : Nat) (K : Nat) (hK : 200 ≤ K) :
    (i = 1 → slot_Find.f K (D.set 0 (bk i)) = some (130, s, 0)) ∧ (i = 2 → slot_Find.f K (D.set 0 (bk i)) = some (32770, s, 0)) ∧ (i ∈ [0, 3, 4, 8, 9, 30, 62, 63] → slot_Find.f K (D.set 0 (bk i)) = some (0, (⟨#[]⟩ : ByteArray), 1801)) := by
  have hl := hD.1
  have f := find_eq (D.set 0 (bk i)) (fine_set hD 0 (bk_size i)) K (by omega)
  have e : ∀ j, blkOf (D.set 0 (bk i)) j = if 0 = j then bk i else blkOf D j := blk_set D 0 (bk i) (by omega)
  have e0 : blkOf (D.set 0 (bk i)) 0 = bk i := by rw [e, if_pos rfl]
  have e65 : slotOf (blkOf (D.set 0 (bk i))) 65 = none := by
    rw [← h65]
    exact slotOf_far (fun j h1 h2 => by rw [e, if_neg (by omega)])
  have ec : cat (blkOf (D.set 0 (bk i))) 1 = cat (blkOf D) 1 := by
    unfold cat
    have : (fun j => (blkOf (D.set 0 (bk i)) (1 + j)).data.toList) = (fun j => (blkOf D (1 + j)).data.toList) := funext fun j => by rw [e, if_neg (by omega)]
    rw [this]
  obtain ⟨_, im⟩ := disk_head D hD s hs h
  rw [e65] at f
  refine ⟨fun hi => ?_, fun hi => ?_, fun hi => ?_⟩
  · subst hi
    rw [sl_some (blkOf (D.set 0 (bk 1))) 130 100 (by rw [e0]; exact bk1.1) (by rw [e0]; exact bk1.2.1) (by rw [e0]; exact bk1.2.2) (by decide), ec, im] at f
    exact f
  · subst hi
    rw [sl_some (blkOf (D.set 0 (bk 2))) 32770 100 (by rw [e0]; exact bk2.1) (by rw [e0]; exact bk2.2.1) (by rw [e0]; exact bk2.2.2) (by decide), ec, im] at f
    exact f
  · have : slotOf (blkOf (D.set 0 (bk i))) 0 = none := by
      unfold slotOf
      rw [e0, if_neg (bkn i hi)]
    rw [this] at f
    exact f
theorem num_1800 : portagelaw0_Num.f 1800 = some 1800 := by decide +kernel
theorem num_1801 : portagelaw0_Num.f 1801 = some 1801 := by decide +kernel
theorem num_0 : portagelaw0_Num.f 0 = some 0 := by decide +kernel
theorem j1_none (b : Bool) (K : Nat) (hK : 1 ≤ K) : portagelaw18_SlotForms.j1 K 1800 1800 1800 0 (⟨#[]⟩ : ByteArray) 1801 1800 b = some true := by
  obtain ⟨m, rfl⟩ : ∃ m, K = m + 1 := ⟨K - 1, by omega⟩
  rw [portagelaw18_SlotForms.j1, num_1800, num_1801]
  cases b
  · rw [if_neg (by decide), Option.bind_some, if_pos rfl, Option.bind_some, if_pos rfl, Option.bind_some, if_pos rfl, if_pos rfl, if_pos (by decide +kernel), Option.bind_some, if_pos rfl, Option.bind_some]
    rfl
  · rw [if_pos rfl, Option.bind_some, if_pos rfl, Option.bind_some, if_pos rfl, Option.bind_some, if_pos rfl, Option.bind_some, if_pos rfl]
theorem j1_some (s : ByteArray) (K : Nat) (h : portagelaw18_text.f K 100 97 = some s) : portagelaw18_SlotForms.j1 (K + 1) 1800 1800 1800 32770 s 0 1800 true = some true := by
  rw [portagelaw18_SlotForms.j1, if_pos rfl, num_1800, num_0, Option.bind_some, if_pos rfl, Option.bind_some, if_pos rfl, Option.bind_some, if_pos rfl, Option.bind_some, if_neg (by decide), if_pos (by decide +kernel), h, Option.bind_some, beq_self_eq_true]
theorem j0_eq (x : Int) (D : List ByteArray) (hD : fine D) (s : ByteArray) (hs : s.size = 100) (h : slotOf (blkOf D) 0 = some (2, s)) (h65 : slotOf (blkOf D) 65 = none) (K : Nat) (hK : 1000 ≤ K) (ht : ∀ k, 500 ≤ k → portagelaw18_text.f k 100 97 = some s) :
    portagelaw18_SlotForms.j0 (K + 1) x 1800 1800 1800 D false = some true := by
  have hl := hD.1
  obtain ⟨n, hn, hx⟩ := tmod_nat x 10 (by omega) (by omega)
  obtain ⟨hb, _⟩ := disk_head D hD s hs h
  have e0 : rdOf ByteArray.empty D 0 = headB 2 100 := by
    rw [← hb]
    have := rdOf_nat ByteArray.empty D 0 (by omega)
    refine this.trans ?_
    unfold blkOf
    rw [List.getD_eq_getElem?_getD, List.getElem?_eq_getElem (by omega)]
    rfl
  have hz : (headB 2 100).size = 64 := headB_size 2 100
  have hbl : (bytesOf (headB 2 100)).length = 64 := by rw [bytesOf_length]; exact hz
  have hx' : wrap64 (Int.tmod (IntKind.u64.wrap x) 10) = (n : Int) := hx
  have f2 : slot_Find.f K (D.take 129) = some (0, (⟨#[]⟩ : ByteArray), 1800) := find_bad _ (by rw [List.length_take]; omega) (by unfold mayB; rw [if_neg (by rw [List.length_take]; omega)]) K (by rw [List.length_take]; omega)
  obtain ⟨i, hi, hr, hcase⟩ : ∃ i : Nat, i < 64 ∧ rd ([0, 1, 2, 3, 4, 8, 9, 30, 62, 63] : List Int) (n : Int) = (i : Int) ∧ (i = 1 ∨ i = 2 ∨ i = 3 ∨ i ∈ [0, 4, 8, 9, 30, 62, 63]) := by
    have : n = 0 ∨ n = 1 ∨ n = 2 ∨ n = 3 ∨ n = 4 ∨ n = 5 ∨ n = 6 ∨ n = 7 ∨ n = 8 ∨ n = 9 := by omega
    rcases this with rfl | rfl | rfl | rfl | rfl | rfl | rfl | rfl | rfl | rfl
    · exact ⟨0, by decide, rfl, by decide⟩
    · exact ⟨1, by decide, rfl, by decide⟩
    · exact ⟨2, by decide, rfl, by decide⟩
    · exact ⟨3, by decide, rfl, by decide⟩
    · exact ⟨4, by decide, rfl, by decide⟩
    · exact ⟨8, by decide, rfl, by decide⟩
    · exact ⟨9, by decide, rfl, by decide⟩
    · exact ⟨30, by decide, rfl, by decide⟩
    · exact ⟨62, by decide, rfl, by decide⟩
    · exact ⟨63, by decide, rfl, by decide⟩
  obtain ⟨b1, b2, bn⟩ := bad_find D hD s hs h h65 i K (by omega)
  rw [portagelaw18_SlotForms.j0, if_neg (by decide), if_pos (by omega), e0, hz, if_pos (by decide), Option.bind_some, Option.bind_some, hx', if_pos (by omega), if_pos (by show (n : Int) < 10; omega), hr, if_pos (by omega), hbl, if_pos (by omega), Option.bind_some, List.length_nil, if_pos (by omega), List.nil_append, Option.bind_some, if_pos (by omega), Int.toNat_natCast]
  change ((slot_Find.f K (D.set 0 (bk i))).bind _) = _
  obtain ⟨m, rfl⟩ : ∃ m, K = m + 1 := ⟨K - 1, by omega⟩
  rcases hcase with rfl | rfl | rfl | hm
  · rw [b1 rfl, Option.bind_some, if_pos (by omega), f2, Option.bind_some]
    dsimp only
    rw [if_pos (by decide), num_1800, Option.bind_some, if_pos rfl, Option.bind_some, if_pos rfl, Option.bind_some, if_pos rfl, if_pos rfl, num_0, Option.bind_some, if_pos rfl, Option.bind_some]
    decide
  · rw [b2 rfl, Option.bind_some, if_pos (by omega), f2, Option.bind_some]
    dsimp only
    rw [if_neg (by decide), if_pos (by decide)]
    exact j1_some s m (ht m (by omega))
  · rw [bn (by decide), Option.bind_some, if_pos (by omega), f2, Option.bind_some]
    dsimp only
    rw [if_neg (by decide), if_neg (by decide)]
    exact j1_none _ _ (by omega)
  · have hm2 : i ∈ [0, 3, 4, 8, 9, 30, 62, 63] := by
      simp only [List.mem_cons, List.not_mem_nil, or_false] at hm ⊢
      omega
    have hn1 : ¬ (i : Int) = 1 := by
      simp only [List.mem_cons, List.not_mem_nil, or_false] at hm
      omega
    have hn2 : ¬ (i : Int) = 2 := by
      simp only [List.mem_cons, List.not_mem_nil, or_false] at hm
      omega
    rw [bn hm2, Option.bind_some, if_pos (by omega), f2, Option.bind_some]
    dsimp only
    rw [if_neg hn1, if_neg hn2]
    exact j1_none _ _ (by omega)
theorem SlotForms : portagelaw18_SlotForms.Pure := by
  intro a0 a1 _ _
  refine ⟨20001, ?_⟩
  obtain ⟨t, ht, hts⟩ := text_size 97 100 (by omega) 500 (by omega)
  have htK : ∀ k, 500 ≤ k → portagelaw18_text.f k 100 97 = some t := by
    intro k hk
    obtain ⟨j, rfl⟩ : ∃ j, k = 500 + j := ⟨k - 500, by omega⟩
    clear hk
    induction j with
    | zero => exact ht
    | succ j ih => exact portagelaw18_text.mono _ _ _ _ ih
  have hand : ∃ c : Nat, c < 1024 ∧ Go.bits .and .i64 a1 1023 = (c : Int) := by
    have h := Bits.and_10 a1
    exact ⟨(a1 % 1024).toNat, by omega, by rw [h]; omega⟩
  obtain ⟨c, hc, ha⟩ := hand
  have w1 : wrap64 (1 + (c : Int)) = ((1 + c : Nat) : Int) := by rw [w64 (by omega) (by omega)]; omega
  have w2 : wrap64 (1 - ((1 + c : Nat) : Int)) = 1 - ((1 + c : Nat) : Int) := w64 (by omega) (by omega)
  have w3 : wrap64 (1048576 + ((1 + c : Nat) : Int)) = 1048576 + ((1 + c : Nat) : Int) := w64 (by omega) (by omega)
  have w4 : wrap64 (4096 + ((1 + c : Nat) : Int)) = ((4096 + (1 + c) : Nat) : Int) := by rw [w64 (by omega) (by omega)]; omega
  obtain ⟨u, hu, hus⟩ := text_size 97 (4096 + (1 + c)) (by omega) 20001 (by omega)
  have p2 := plan_eq 2 (by omega) (by omega) t (by omega) 20001 (by omega)
  have hl := plan_length 2 t
  have hbt : blocks t = 2 := by unfold blocks; omega
  have fD := put_fine nd fine_nd 2 t (by omega)
  obtain ⟨s1, s2⟩ := put_slots nd fine_nd 2 (by omega) (by omega) t (by omega)
  have r2 := put_run nd fine_nd 2 t (by omega) 20001 (by omega)
  unfold portagelaw18_SlotForms.f
  rw [awake_eq 20001 (by omega), Option.bind_some, if_pos rfl, ha, w1, w2, w3, w4, plan_bad _ _ (.inl (by omega)) 20001, Option.bind_some, plan_bad _ _ (.inr (.inl (by omega))) 20001, Option.bind_some, hu, Option.bind_some, plan_bad _ _ (.inr (.inr (by omega))) 20001, Option.bind_some, htK 20001 (by omega), Option.bind_some]
  change ((slot_Plan.f 20001 ((2 : Nat) : Int) t).bind _) = _
  rw [p2, Option.bind_some, newdisk_eq 20001 (by omega), Option.bind_some]
  dsimp only
  change ((portageref17_Run.f 20001 nd (plan 2 t) ((plan 2 t).length : Int) 0).bind _) = _
  rw [r2, Option.bind_some, num_0, Option.bind_some, if_pos rfl]
  dsimp only
  have hne : (((plan 2 t).length : Int) != 4) = false := by rw [hl, hbt]; rfl
  rw [if_pos rfl, hne]
  exact j0_eq a0 (put nd 2 t) fD t hts s2 (s1.trans (nd_none 65 (by omega))) 20000 (by omega) htK
end Go.Proofs.Ytdccnjinehcenaa.Pure
