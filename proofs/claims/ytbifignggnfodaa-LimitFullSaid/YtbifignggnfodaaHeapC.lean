/- container/heap's down over trees. -/
import Derived.Test.YtbifignggnfodaaHeapI
namespace Go.Proofs.Ytbifignggnfodaa.HeapA
open Go.RowKit Go.Proofs.YtbifignggnfodaaW.PrintWords Go.Proofs.YtbifignggnfodaaW.PrintLast Go.Proofs.YtbifignggnfodaaW.PrintMore Go.Proofs.Ytbifignggnfodaa.HeapM
set_option linter.unusedVariables false
set_option linter.unusedSimpArgs false
/-- The blocks that a heap's functions may write: variables of trees, rows of pointers. -/
def Ty (w : World) (k : Nat) : Prop := ∃ cs, w.heap[k]? = some (.cells cs 117 (0, 0)) ∨ w.heap[k]? = some (.cells cs 118 (0, 0))
theorem fr_trans {w W W2 : World} (h1 : Kept w W (Ty w)) (h2 : Kept W W2 (Ty W)) : Kept w W2 (Ty w) :=
  h1.then_ h2 fun k hk => by
    by_cases hlt : k < w.heap.size
    · by_cases ht : Ty w k
      · exact .inl ht
      · obtain ⟨cs, hc⟩ := hk
        have := h1.2 k hlt ht
        rw [this] at hc
        exact absurd ⟨cs, hc⟩ ht
    · exact .inr (by omega)
theorem less_int (w : World) (base ob g cap : Nat) (bs : List Nat) (ts : List T) (x y : Int) (i j : Nat) (hx : x = (i : Int)) (hy : y = (j : Int)) (h : Trees w base ob (.slice (some ⟨g, 0, none⟩) ts.length cap) bs ts) (hi : i < ts.length) (hj : j < ts.length) (r : Bool) (hr : lt (HeapM.get ts i) (HeapM.get ts j) = r) :
    Calls Try.prog 120 #[.slice (some ⟨g, 0, none⟩) ts.length cap, .int .i64 x, .int .i64 y] w fun e w' => e = .returned (.bool r) ∧ Drawn0 w w' := by
  subst hx hy hr
  exact less_any w base ob g cap bs ts i j h hi hj
theorem down_step {k : Nat} {ts : List T} {i n : Nat} (h : 2 * i + 1 < n) : down (k + 1) ts i n = if lt (HeapM.get ts (child ts i n)) (HeapM.get ts i) = true then down k (swap ts i (child ts i n)) (child ts i n) n else ts := by rw [down, if_pos h]
theorem down_out {k : Nat} {ts : List T} {i n : Nat} (h : ¬ 2 * i + 1 < n) : down k ts i n = ts := by
  cases k with
  | zero => rfl
  | succ k => rw [down, if_neg h]
theorem swap_int (w : World) (base ob g cap : Nat) (bs : List Nat) (ts : List T) (x y : Int) (i j : Nat) (hx : x = (i : Int)) (hy : y = (j : Int)) (h : Trees w base ob (.slice (some ⟨g, 0, none⟩) ts.length cap) bs ts) (hi : i < ts.length) (hj : j < ts.length) :
    Calls Try.prog 121 #[.slice (some ⟨g, 0, none⟩) ts.length cap, .int .i64 x, .int .i64 y] w (Swapped w base ob g cap ts i j) := by
  subst hx hy
  exact swap_any w base ob g cap bs ts i j h hi hj
/-- Behind a swap the heap is one again. -/
theorem swapped_heap {w w' : World} {base ob hb g cap : Nat} {ts : List T} {i j : Nat} {e : Ending} (h : Swapped w base ob g cap ts i j e w') (hv : w.heap[hb]? = some (.cells #[.slice (some ⟨g, 0, none⟩) ts.length cap] 117 (0, 0))) (hg : ∃ cs, w.heap[g]? = some (.cells cs 118 (0, 0))) (hge : base ≤ hb) :
    ∃ bs', HeapAt w' base ob hb bs' (swap ts i j) ∧ Kept w w' (Ty w) ∧ Below base w w' := by
  obtain ⟨bs', _, ht, hk, hbl⟩ := h
  obtain ⟨cs, hg⟩ := hg
  have hne : hb ≠ g := by
    intro e
    rw [e, hg] at hv
    cases hv
  exact ⟨bs', ⟨⟨_, (hk.2 hb (blk_lt hv) hne).trans hv, ht⟩, hge⟩, hk.mono fun k e => ⟨cs, .inr (by rw [e]; exact hg)⟩, hbl⟩
theorem HeapAt.drewN {W : World} {base ob hb : Nat} {bs : List Nat} {ts : List T} (h : HeapAt W base ob hb bs ts) (n : Nat) : HeapAt (W.drewN n) base ob hb bs ts := by
  obtain ⟨⟨v, hv, ht⟩, hge⟩ := h
  exact ⟨⟨v, hv, ht.drewN n⟩, hge⟩
/-- A round behind its swap. -/
theorem down_round {w wr w1 : World} {base ob hb g cap m : Nat} {ts : List T} {bs : List Nat} {i j : Nat} {e : Ending} (hs : Swapped (wr.drewN m) base ob g cap ts i j e w1) (ht : Trees wr base ob (.slice (some ⟨g, 0, none⟩) ts.length cap) bs ts) (hv : wr.heap[hb]? = some (.cells #[.slice (some ⟨g, 0, none⟩) ts.length cap] 117 (0, 0))) (hge : base ≤ hb) (hk : Kept w wr (Ty w)) (hbl : Below base w wr) :
    ∃ bs', HeapAt w1 base ob hb bs' (swap ts i j) ∧ Kept w w1 (Ty w) ∧ Below base w w1 := by
  obtain ⟨bs', h1, h2, h3⟩ := swapped_heap hs hv (own_typed ht.row g rfl) hge
  exact ⟨bs', h1, fr_trans (Kept.drewN hk m) h2, (pw_below_drewN hbl m).trans h3⟩
/-- What down leaves. -/
def Downed (w : World) (base ob hb : Nat) (R : List T) (e : Ending) (w' : World) : Prop := ∃ (r : Bool) (bs' : List Nat), e = .returned (.bool r) ∧ HeapAt w' base ob hb bs' R ∧ Kept w w' (Ty w) ∧ Below base w w'
set_option maxHeartbeats 8000000 in
set_option maxRecDepth 100000 in
theorem down_any (w : World) (base ob hb : Nat) (bs : List Nat) (ts : List T) (h : HeapAt w base ob hb bs ts) (i n K : Nat) (hn : n ≤ ts.length) (hi : i < 1000) (hmax : ts.length ≤ 1000) (hK : n ≤ K + i) :
    Calls Try.prog 101 #[.iface 122 (.pointer (some ⟨hb, 0, none⟩)), .int .i64 (i : Int), .int .i64 (n : Int)] w (Downed w base ob hb (down K ts i n)) := by
  have HH := Aside0.mk h
  have HN := Aside0.mk hn
  have HM := Aside0.mk hmax
  have HK0 := Aside0.mk hK
  obtain ⟨R, hR⟩ : ∃ R, down K ts i n = R := ⟨_, rfl⟩
  rw [hR]
  have HR := Aside0.mk hR
  clear h hn hmax hK hR
  go_enter Try.func101, Try.ntmps101
  go_wp2_with fail
  go_loopw [7] (fun v7 wr => ∃ (q k : Nat) (bs' : List Nat) (ts' : List T), v7 = .int .i64 (q : Int) ∧ q < 1000 ∧ Aside0 (down k ts' q n = R) ∧ Aside0 (n ≤ k + q) ∧ Aside0 (ts'.length = ts.length) ∧ Aside0 (HeapAt wr base ob hb bs' ts') ∧ Aside0 (Kept w wr (Ty w)) ∧ Aside0 (Below base w wr)) (fun v7 _ => 1000 - (intOf v7).toNat)
  case atStart => exact ⟨i, K, bs, ts, rfl, hi, HR, HK0, ⟨rfl⟩, HH, ⟨Kept.refl w _⟩, ⟨Below.refl base w⟩⟩
  case round =>
    clear HR HK0 HH hi
    obtain ⟨q, k, bs', ts', rfl, hq, HR, HKq, HL, HH, HKp, HB⟩ := hrel
    have hn1 := HN.out
    have hm1 := HM.out
    have hq0 : (0 : Int) ≤ (q : Int) := by omega
    have hq1 : (q : Int) < 1000 := by omega
    by_cases h1 : 2 * q + 1 < n
    · obtain ⟨k', rfl⟩ : ∃ k', k = k' + 1 := ⟨k - 1, by have := HKq.out; omega⟩
      have hRs := HR.out
      rw [down_step h1] at hRs
      obtain ⟨⟨v, hv, ht⟩, hge⟩ := HH.out
      have hl := HL.out
      obtain ⟨g, cap, rfl, hg0, hg1⟩ := ht.form (by omega)
      have HT := Aside0.mk ht
      have HV := Aside0.mk hv
      have hcv : wr.cell? ⟨hb, 0, none⟩ = some (.slice (some ⟨g, 0, none⟩) ts'.length cap) := (blk_cell hv 0).trans rfl
      have hmL : ∀ W : World, W.cell? ⟨hb, 0, none⟩ = some (.slice (some ⟨g, 0, none⟩) ts'.length cap) → (method 256 122 (.pointer (some ⟨hb, 0, none⟩)) "Less").run Try.prog W = .ok (120, .slice (some ⟨g, 0, none⟩) ts'.length cap) W := fun W h => meth_less hb W _ _ _ h
      have hmS : ∀ W : World, W.cell? ⟨hb, 0, none⟩ = some (.slice (some ⟨g, 0, none⟩) ts'.length cap) → (method 256 122 (.pointer (some ⟨hb, 0, none⟩)) "Swap").run Try.prog W = .ok (121, .slice (some ⟨g, 0, none⟩) ts'.length cap) W := fun W h => meth_swap hb W _ _ _ h
      have hd : decide ((n : Int) ≤ 2 * (q : Int) + 1) = false := decide_eq_false (by omega)
      have hd0 : decide (2 * (q : Int) + 1 < 0) = false := decide_eq_false (by omega)
      by_cases h2 : 2 * q + 2 < n
      · have hd2 : decide (2 * (q : Int) + 1 + 1 < (n : Int)) = true := decide_eq_true (by omega)
        have HRs := Aside0.mk hRs
        clear hRs ht hv hge hl hg0 hg1 hn1
        cases hr1 : lt (HeapM.get ts' (2 * q + 2)) (HeapM.get ts' (2 * q + 1)) with
        | true =>
          have hch : child ts' q n = 2 * q + 2 := by unfold child; rw [if_pos ⟨h2, hr1⟩]
          cases hr2 : lt (HeapM.get ts' (2 * q + 2)) (HeapM.get ts' q) with
          | true =>
            have R1 := Aside0.mk hr1
            have R2 := Aside0.mk hr2
            have HC := Aside0.mk hch
            clear hr1 hr2 hch
            go_wp2_with (first | (go_at_call 120; first | ((with_reducible refine (less_int _ base ob g cap bs' ts' _ _ (2 * q + 2) (2 * q + 1) (by omega) (by omega) (by first | exact HT.out | exact HT.out.drewN _) (by have := HL.out; have := HN.out; omega) (by have := HL.out; have := HN.out; omega) true R1.out).mono ?_); rintro e w1 ⟨rfl, ⟨nd, rfl⟩⟩) | ((with_reducible refine (less_int _ base ob g cap bs' ts' _ _ (2 * q + 2) q (by omega) (by omega) (by first | exact HT.out | exact HT.out.drewN _) (by have := HL.out; have := HN.out; omega) (by have := HL.out; have := HN.out; omega) true R2.out).mono ?_); rintro e w1 ⟨rfl, ⟨nd, rfl⟩⟩)) | (go_at_call 121; (with_reducible refine (swap_int _ base ob g cap bs' ts' _ _ q (2 * q + 2) (by omega) (by omega) (by first | exact HT.out | exact HT.out.drewN _) (by have := HL.out; have := HN.out; omega) (by have := HL.out; have := HN.out; omega)).mono ?_); intro e w1 hsw; have he := hsw.choose_spec.1; subst he; have HS := Aside0.mk hsw; clear hsw))
            obtain ⟨bs2, k1, k2, k3⟩ := down_round HS.out HT.out HV.out HH.out.ge HKp.out HB.out
            have hq2 : (2 * q + 2) < 1000 := by have := HL.out; have := HN.out; have := HM.out; omega
            have hR2 : down k' (swap ts' q (2 * q + 2)) (2 * q + 2) n = R := by have := HRs.out; rw [HC.out, R2.out, if_pos rfl] at this; exact this
            exact ⟨⟨(2 * q + 2), k', bs2, swap ts' q (2 * q + 2), by first | rfl | (congr 1; omega), hq2, ⟨hR2⟩, ⟨by have := HKq.out; omega⟩, ⟨by rw [swap_length]; exact HL.out⟩, ⟨k1⟩, ⟨k2⟩, ⟨k3⟩⟩, by show 1000 - (2 * (q : Int) + 1 + 1 : Int).toNat < 1000 - (q : Int).toNat; omega⟩
          | false =>
            have R1 := Aside0.mk hr1
            have R2 := Aside0.mk hr2
            have HC := Aside0.mk hch
            clear hr1 hr2 hch
            go_wp2_with (first | (go_at_call 120; first | ((with_reducible refine (less_int _ base ob g cap bs' ts' _ _ (2 * q + 2) (2 * q + 1) (by omega) (by omega) (by first | exact HT.out | exact HT.out.drewN _) (by have := HL.out; have := HN.out; omega) (by have := HL.out; have := HN.out; omega) true R1.out).mono ?_); rintro e w1 ⟨rfl, ⟨nd, rfl⟩⟩) | ((with_reducible refine (less_int _ base ob g cap bs' ts' _ _ (2 * q + 2) q (by omega) (by omega) (by first | exact HT.out | exact HT.out.drewN _) (by have := HL.out; have := HN.out; omega) (by have := HL.out; have := HN.out; omega) false R2.out).mono ?_); rintro e w1 ⟨rfl, ⟨nd, rfl⟩⟩)))
            go_ret
            have hR2 : ts' = R := by have := HRs.out; rw [HC.out, R2.out, if_neg (by decide)] at this; exact this
            exact ⟨_, bs', rfl, by rw [← hR2]; exact HH.out.drewN _, Kept.drewN HKp.out _, pw_below_drewN HB.out _⟩
        | false =>
          have hch : child ts' q n = 2 * q + 1 := by unfold child; rw [if_neg (fun h => by rw [hr1] at h; exact absurd h.2 (by decide))]
          cases hr2 : lt (HeapM.get ts' (2 * q + 1)) (HeapM.get ts' q) with
          | true =>
            have R1 := Aside0.mk hr1
            have R2 := Aside0.mk hr2
            have HC := Aside0.mk hch
            clear hr1 hr2 hch
            go_wp2_with (first | (go_at_call 120; first | ((with_reducible refine (less_int _ base ob g cap bs' ts' _ _ (2 * q + 2) (2 * q + 1) (by omega) (by omega) (by first | exact HT.out | exact HT.out.drewN _) (by have := HL.out; have := HN.out; omega) (by have := HL.out; have := HN.out; omega) false R1.out).mono ?_); rintro e w1 ⟨rfl, ⟨nd, rfl⟩⟩) | ((with_reducible refine (less_int _ base ob g cap bs' ts' _ _ (2 * q + 1) q (by omega) (by omega) (by first | exact HT.out | exact HT.out.drewN _) (by have := HL.out; have := HN.out; omega) (by have := HL.out; have := HN.out; omega) true R2.out).mono ?_); rintro e w1 ⟨rfl, ⟨nd, rfl⟩⟩)) | (go_at_call 121; (with_reducible refine (swap_int _ base ob g cap bs' ts' _ _ q (2 * q + 1) (by omega) (by omega) (by first | exact HT.out | exact HT.out.drewN _) (by have := HL.out; have := HN.out; omega) (by have := HL.out; have := HN.out; omega)).mono ?_); intro e w1 hsw; have he := hsw.choose_spec.1; subst he; have HS := Aside0.mk hsw; clear hsw))
            obtain ⟨bs2, k1, k2, k3⟩ := down_round HS.out HT.out HV.out HH.out.ge HKp.out HB.out
            have hq2 : (2 * q + 1) < 1000 := by have := HL.out; have := HN.out; have := HM.out; omega
            have hR2 : down k' (swap ts' q (2 * q + 1)) (2 * q + 1) n = R := by have := HRs.out; rw [HC.out, R2.out, if_pos rfl] at this; exact this
            exact ⟨⟨(2 * q + 1), k', bs2, swap ts' q (2 * q + 1), by first | rfl | (congr 1; omega), hq2, ⟨hR2⟩, ⟨by have := HKq.out; omega⟩, ⟨by rw [swap_length]; exact HL.out⟩, ⟨k1⟩, ⟨k2⟩, ⟨k3⟩⟩, by show 1000 - (2 * (q : Int) + 1 : Int).toNat < 1000 - (q : Int).toNat; omega⟩
          | false =>
            have R1 := Aside0.mk hr1
            have R2 := Aside0.mk hr2
            have HC := Aside0.mk hch
            clear hr1 hr2 hch
            go_wp2_with (first | (go_at_call 120; first | ((with_reducible refine (less_int _ base ob g cap bs' ts' _ _ (2 * q + 2) (2 * q + 1) (by omega) (by omega) (by first | exact HT.out | exact HT.out.drewN _) (by have := HL.out; have := HN.out; omega) (by have := HL.out; have := HN.out; omega) false R1.out).mono ?_); rintro e w1 ⟨rfl, ⟨nd, rfl⟩⟩) | ((with_reducible refine (less_int _ base ob g cap bs' ts' _ _ (2 * q + 1) q (by omega) (by omega) (by first | exact HT.out | exact HT.out.drewN _) (by have := HL.out; have := HN.out; omega) (by have := HL.out; have := HN.out; omega) false R2.out).mono ?_); rintro e w1 ⟨rfl, ⟨nd, rfl⟩⟩)))
            go_ret
            have hR2 : ts' = R := by have := HRs.out; rw [HC.out, R2.out, if_neg (by decide)] at this; exact this
            exact ⟨_, bs', rfl, by rw [← hR2]; exact HH.out.drewN _, Kept.drewN HKp.out _, pw_below_drewN HB.out _⟩
      · have hd2 : decide (2 * (q : Int) + 1 + 1 < (n : Int)) = false := decide_eq_false (by omega)
        have HRs := Aside0.mk hRs
        clear hRs ht hv hge hl hg0 hg1 hn1
        have hch : child ts' q n = 2 * q + 1 := by unfold child; rw [if_neg (fun h => h2 h.1)]
        cases hr2 : lt (HeapM.get ts' (2 * q + 1)) (HeapM.get ts' q) with
        | true =>
          have R2 := Aside0.mk hr2
          have HC := Aside0.mk hch
          clear hr2 hch
          go_wp2_with (first | (go_at_call 120; ((with_reducible refine (less_int _ base ob g cap bs' ts' _ _ (2 * q + 1) q (by omega) (by omega) (by first | exact HT.out | exact HT.out.drewN _) (by have := HL.out; have := HN.out; omega) (by have := HL.out; have := HN.out; omega) true R2.out).mono ?_); rintro e w1 ⟨rfl, ⟨nd, rfl⟩⟩)) | (go_at_call 121; (with_reducible refine (swap_int _ base ob g cap bs' ts' _ _ q (2 * q + 1) (by omega) (by omega) (by first | exact HT.out | exact HT.out.drewN _) (by have := HL.out; have := HN.out; omega) (by have := HL.out; have := HN.out; omega)).mono ?_); intro e w1 hsw; have he := hsw.choose_spec.1; subst he; have HS := Aside0.mk hsw; clear hsw))
          obtain ⟨bs2, k1, k2, k3⟩ := down_round HS.out HT.out HV.out HH.out.ge HKp.out HB.out
          have hq2 : (2 * q + 1) < 1000 := by have := HL.out; have := HN.out; have := HM.out; omega
          have hR2 : down k' (swap ts' q (2 * q + 1)) (2 * q + 1) n = R := by have := HRs.out; rw [HC.out, R2.out, if_pos rfl] at this; exact this
          exact ⟨⟨(2 * q + 1), k', bs2, swap ts' q (2 * q + 1), by first | rfl | (congr 1; omega), hq2, ⟨hR2⟩, ⟨by have := HKq.out; omega⟩, ⟨by rw [swap_length]; exact HL.out⟩, ⟨k1⟩, ⟨k2⟩, ⟨k3⟩⟩, by show 1000 - (2 * (q : Int) + 1 : Int).toNat < 1000 - (q : Int).toNat; omega⟩
        | false =>
          have R2 := Aside0.mk hr2
          have HC := Aside0.mk hch
          clear hr2 hch
          go_wp2_with (first | (go_at_call 120; ((with_reducible refine (less_int _ base ob g cap bs' ts' _ _ (2 * q + 1) q (by omega) (by omega) (by first | exact HT.out | exact HT.out.drewN _) (by have := HL.out; have := HN.out; omega) (by have := HL.out; have := HN.out; omega) false R2.out).mono ?_); rintro e w1 ⟨rfl, ⟨nd, rfl⟩⟩)))
          go_ret
          have hR2 : ts' = R := by have := HRs.out; rw [HC.out, R2.out, if_neg (by decide)] at this; exact this
          exact ⟨_, bs', rfl, by rw [← hR2]; exact HH.out.drewN _, Kept.drewN HKp.out _, pw_below_drewN HB.out _⟩
    · have hd : decide ((n : Int) ≤ 2 * (q : Int) + 1) = true := decide_eq_true (by omega)
      go_wp2
      go_ret
      exact ⟨_, bs', rfl, by rw [← HR.out, down_out (by omega)]; exact HH.out, HKp.out, HB.out⟩
end Go.Proofs.Ytbifignggnfodaa.HeapA
