/- The walks of limit's heap: the methods of trees, and container/heap over them. -/
import Derived.Test.YtbifignggnfodaaProg
import Derived.Below
import Derived.Deep.Draws
import Derived.Deep.AppendLies
import Derived.Maps.AppendAt
import Derived.OwnWalk
import Derived.Laws.MakeOwn
import Derived.Laws.OwnMore
import Derived.Deep.OwnRows
import Derived.Tactics
import Derived.WalkKit
import Derived.KernelRfl
import Derived.RowKit3
import Derived.Deep.LoopGhost
import Derived.Deep.RegionHeld3
import Derived.Deep.RegionLaw
import Derived.Deep.QuietTactic
import Derived.BigQuiet
import Derived.Lib.Hide
import Derived.Test.YtbifignggnfodaaHeapM
import Derived.Test.YtbifignggnfodaaWMore
namespace Go.Proofs.Ytbifignggnfodaa.HeapA
open Go.RowKit Go.Proofs.YtbifignggnfodaaW.PrintWords Go.Proofs.YtbifignggnfodaaW.PrintLast Go.Proofs.YtbifignggnfodaaW.PrintMore Go.Proofs.Ytbifignggnfodaa.HeapM
set_option linter.unusedVariables false
set_option linter.unusedSimpArgs false
def ptr (b : Nat) : Value := .pointer (some ⟨b, 0, none⟩)
/-- A tree at its block, its symbols in a row of their own that is not the block ob. -/
def TreeAt (W : World) (base ob b : Nat) (t : T) : Prop := base ≤ b ∧ ∃ sv : Value, W.heap[b]? = some (.cells #[.int .i64 t.w, .int .i64 t.m, sv] 120 (0, 0)) ∧ W.ownsRow base 3 1 sv t.s.length (nums .i64 t.s) ∧ sv.ownBlock ≠ some ob
/-- A row of trees: pointers in a row of the call's own. -/
structure Trees (W : World) (base ob : Nat) (v : Value) (bs : List Nat) (ts : List T) : Prop where
  row : W.ownsRow base 118 1 v ts.length (bs.map ptr)
  len : bs.length = ts.length
  at_ : ∀ i : Nat, i < ts.length → TreeAt W base ob (bs.getD i 0) (get ts i)
theorem TreeAt.move {W W1 : World} {base ob b : Nat} {t : T} (h : TreeAt W base ob b t) (hb : W1.heap[b]? = W.heap[b]?) (hs : ∀ (k : Nat) (cs : Array Value), W.heap[k]? = some (.cells cs 3 (0, 0)) → k ≠ ob → W1.heap[k]? = W.heap[k]?) : TreeAt W1 base ob b t := by
  obtain ⟨h0, sv, h1, h2, h3⟩ := h
  refine ⟨h0, sv, hb.trans h1, own_move h2 fun k hk => ?_, h3⟩
  obtain ⟨cs, hc⟩ := own_typed h2 k hk
  exact hs k cs hc (fun e => h3 (by rw [hk, e]))
section
variable {W : World} {base ob : Nat} {v : Value} {bs : List Nat} {ts : List T}
theorem Trees.form (h : Trees W base ob v bs ts) (h0 : 0 < ts.length) : ∃ g cap, v = .slice (some ⟨g, 0, none⟩) ts.length cap ∧ base ≤ g ∧ g < W.heap.size := h.row.form h0
theorem Trees.cell {g cap : Nat} (h : Trees W base ob (.slice (some ⟨g, 0, none⟩) ts.length cap) bs ts) (i : Nat) (hi : i < ts.length) : W.cell? ⟨g, i, none⟩ = some (ptr (bs.getD i 0)) := by
  have := h.row.cells (g := g) rfl i (ptr (bs.getD i 0)) (by
    have hl : i < bs.length := by rw [h.len]; exact hi
    rw [List.getElem?_map, List.getD_eq_getElem?_getD, List.getElem?_eq_getElem hl]
    rfl)
  rw [add_plain] at this
  exact this
theorem Trees.w (h : Trees W base ob v bs ts) (i : Nat) (hi : i < ts.length) : W.cell? ⟨bs.getD i 0, 0, none⟩ = some (.int .i64 (get ts i).w) ∧ W.cell? ⟨bs.getD i 0, 1, none⟩ = some (.int .i64 (get ts i).m) := by
  obtain ⟨_, sv, h1, _⟩ := h.at_ i hi
  exact ⟨(blk_cell h1 0).trans rfl, (blk_cell h1 1).trans rfl⟩
end
set_option maxHeartbeats 8000000 in
set_option maxRecDepth 100000 in
theorem less_any (w : World) (base ob g cap : Nat) (bs : List Nat) (ts : List T) (i j : Nat) (h : Trees w base ob (.slice (some ⟨g, 0, none⟩) ts.length cap) bs ts) (hi : i < ts.length) (hj : j < ts.length) :
    Calls Try.prog 120 #[.slice (some ⟨g, 0, none⟩) ts.length cap, .int .i64 (i : Int), .int .i64 (j : Int)] w fun e w' => e = .returned (.bool (lt (get ts i) (get ts j))) ∧ Drawn0 w w' := by
  have hci := h.cell i hi
  have hcj := h.cell j hj
  obtain ⟨hwi, hmi⟩ := h.w i hi
  obtain ⟨hwj, hmj⟩ := h.w j hj
  unfold ptr at hci hcj
  have hi0 : (0 : Int) ≤ (i : Int) := by omega
  have hj0 : (0 : Int) ≤ (j : Int) := by omega
  have hi1 : (i : Int) < (ts.length : Int) := by omega
  have hj1 : (j : Int) < (ts.length : Int) := by omega
  clear h
  unfold lt
  generalize get ts i = a at hwi hmi ⊢
  generalize get ts j = b at hwj hmj ⊢
  generalize bs.getD i 0 = bi at hci hwi hmi
  generalize bs.getD j 0 = bj at hcj hwj hmj
  by_cases hw : a.w = b.w
  · rw [if_pos hw]
    have hd : (a.w != b.w) = false := bne_eq_false_iff_eq.mpr hw
    clear hw
    go_enter Try.func120, Try.ntmps120
    go_wp2_with fail
    go_quiet ((fail))
    go_wp2_with fail
    go_quiet ((fail))
    all_goals go_wp2
    go_ret
    exact ⟨rfl, by repeat (first | exact Drawn0.refl _ | apply Drawn0.step)⟩
  · rw [if_neg hw]
    have hd : (a.w != b.w) = true := bne_iff_ne.mpr hw
    clear hw
    go_enter Try.func120, Try.ntmps120
    go_wp2_with fail
    go_quiet ((fail))
    go_wp2_with fail
    go_quiet ((fail))
    all_goals go_wp2
    go_ret
    exact ⟨rfl, by repeat (first | exact Drawn0.refl _ | apply Drawn0.step)⟩
theorem getD_set (xs : List Nat) (i q x : Nat) (hi : i < xs.length) : (xs.set i x).getD q 0 = if i = q then x else xs.getD q 0 := by
  rw [List.getD_eq_getElem?_getD, List.getElem?_set]
  by_cases e : i = q
  · rw [if_pos e, if_pos e, if_pos hi]; rfl
  · rw [if_neg e, if_neg e, List.getD_eq_getElem?_getD]
theorem hget_set (ts : List T) (i q : Nat) (x : T) (hi : i < ts.length) : get (ts.set i x) q = if i = q then x else get ts q := by
  unfold HeapM.get
  rw [List.getD_eq_getElem?_getD, List.getElem?_set]
  by_cases e : i = q
  · rw [if_pos e, if_pos e, if_pos hi]; rfl
  · rw [if_neg e, if_neg e, List.getD_eq_getElem?_getD]
theorem get_swap (ts : List T) (i j q : Nat) (hi : i < ts.length) (hj : j < ts.length) : get (swap ts i j) q = if j = q then get ts i else if i = q then get ts j else get ts q := by
  unfold swap
  rw [hget_set _ _ _ _ (by simpa using hj), hget_set _ _ _ _ hi]
/-- A pointer is laid into the row. -/
theorem Trees.put {W : World} {base ob g cap : Nat} {bs : List Nat} {ts : List T} (h : Trees W base ob (.slice (some ⟨g, 0, none⟩) ts.length cap) bs ts) (i b : Nat) (t : T) (hi : i < ts.length) (hb : TreeAt W base ob b t) :
    Trees (W.setCell ⟨g, i, none⟩ (ptr b)) base ob (.slice (some ⟨g, 0, none⟩) ts.length cap) (bs.set i b) (ts.set i t) := by
  obtain ⟨hr, hl, ha⟩ := h
  have hg : ∃ cs, W.heap[g]? = some (.cells cs 118 (0, 0)) := own_typed hr g rfl
  obtain ⟨gcs, hg⟩ := hg
  have mv : ∀ {b : Nat} {t : T}, TreeAt W base ob b t → TreeAt (W.setCell ⟨g, i, none⟩ (ptr b)) base ob b t → True := fun _ _ => trivial
  have mv : ∀ (q : Nat) (t : T) (u : Value), TreeAt W base ob q t → TreeAt (W.setCell ⟨g, i, none⟩ u) base ob q t := fun q t u hq => by
    refine hq.move (Below.heap_setCell W ⟨g, i, none⟩ u q ?_) fun k cs hk _ => Below.heap_setCell W ⟨g, i, none⟩ u k ?_
    · rintro rfl
      obtain ⟨_, sv, h1, _⟩ := hq
      rw [hg] at h1
      cases h1
    · rintro rfl
      rw [hg] at hk
      cases hk
  refine ⟨?_, by simpa using hl, fun q hq => ?_⟩
  · have hr2 : W.ownsRow base 118 1 (.slice (some ⟨g, 0, none⟩) bs.length cap) bs.length (encs ptr bs) := by rw [hl]; exact hr
    have := own_put_of (enc := ptr) hr2 (i : Int) b
    rw [Int.toNat_natCast, List.length_set, hl] at this
    rw [List.length_set]
    exact this
  · have hq' : q < ts.length := by simpa using hq
    rw [getD_set _ _ _ _ (by omega), hget_set _ _ _ _ hi]
    by_cases e : i = q
    · rw [if_pos e, if_pos e]
      exact mv _ _ _ hb
    · rw [if_neg e, if_neg e]
      exact mv _ _ _ (ha q hq')
theorem Trees.drewN {W : World} {base ob : Nat} {v : Value} {bs : List Nat} {ts : List T} (h : Trees W base ob v bs ts) (n : Nat) : Trees (W.drewN n) base ob v bs ts := ⟨h.row, h.len, h.at_⟩
theorem Trees.drew {W : World} {base ob : Nat} {v : Value} {bs : List Nat} {ts : List T} (h : Trees W base ob v bs ts) : Trees W.drew base ob v bs ts := ⟨h.row, h.len, h.at_⟩
theorem kept2 (w : World) (g i j : Nat) (u v : Value) (n : Nat) : Kept w (((w.setCell ⟨g, i, none⟩ u).setCell ⟨g, j, none⟩ v).drewN n) (fun k => k = g) := by
  have h1 : Kept w (w.setCell ⟨g, i, none⟩ u) (fun k => k = g) := Kept.setCell (Kept.refl w (fun k => k = g)) (p := ⟨g, i, none⟩) (Or.inl (Eq.refl g)) u
  have h2 : Kept w ((w.setCell ⟨g, i, none⟩ u).setCell ⟨g, j, none⟩ v) (fun k => k = g) := Kept.setCell h1 (p := ⟨g, j, none⟩) (Or.inl (Eq.refl g)) v
  exact Kept.drewN h2 n
/-- Two change places. -/
def Swapped (w : World) (base ob g cap : Nat) (ts : List T) (i j : Nat) (e : Ending) (w' : World) : Prop := ∃ bs', e = .returned (.tuple #[]) ∧ Trees w' base ob (.slice (some ⟨g, 0, none⟩) ts.length cap) bs' (swap ts i j) ∧ Kept w w' (fun k => k = g) ∧ Below base w w'
set_option maxHeartbeats 8000000 in
set_option maxRecDepth 100000 in
theorem swap_any (w : World) (base ob g cap : Nat) (bs : List Nat) (ts : List T) (i j : Nat) (h : Trees w base ob (.slice (some ⟨g, 0, none⟩) ts.length cap) bs ts) (hi : i < ts.length) (hj : j < ts.length) :
    Calls Try.prog 121 #[.slice (some ⟨g, 0, none⟩) ts.length cap, .int .i64 (i : Int), .int .i64 (j : Int)] w (Swapped w base ob g cap ts i j) := by
  have hci := h.cell i hi
  have hcj := h.cell j hj
  have hfi : w.frozen? ⟨g, i, none⟩ = false := by obtain ⟨cs, hc⟩ := own_typed h.row g rfl; exact blk_frozen hc i
  have hfj : w.frozen? ⟨g, j, none⟩ = false := by obtain ⟨cs, hc⟩ := own_typed h.row g rfl; exact blk_frozen hc j
  unfold ptr at hci hcj
  have hi0 : (0 : Int) ≤ (i : Int) := by omega
  have hj0 : (0 : Int) ≤ (j : Int) := by omega
  have hi1 : (i : Int) < (ts.length : Int) := by omega
  have hj1 : (j : Int) < (ts.length : Int) := by omega
  have HT := Aside0.mk h
  have HI := Aside0.mk hi
  have HJ := Aside0.mk hj
  clear h hi hj
  have fin : ∀ n : Nat, Swapped w base ob g cap ts i j (.returned (.tuple #[])) (((w.setCell ⟨g, i, none⟩ (.pointer (some ⟨bs.getD j 0, 0, none⟩))).setCell ⟨g, j, none⟩ (.pointer (some ⟨bs.getD i 0, 0, none⟩))).drewN n) := fun n => by
    have hbg := (own_base HT.out.row g rfl)
    have h1 := HT.out.put i (bs.getD j 0) (HeapM.get ts j) HI.out (HT.out.at_ j HJ.out)
    have h2 := HT.out.put i (bs.getD j 0) (HeapM.get ts j) HI.out (HT.out.at_ j HJ.out)
    have hl : (ts.set i (HeapM.get ts j)).length = ts.length := by simp
    rw [← hl] at h1
    have ti : TreeAt (w.setCell ⟨g, i, none⟩ (ptr (bs.getD j 0))) base ob (bs.getD i 0) (HeapM.get ts i) := by
      have h3 := HT.out.at_ i HI.out
      obtain ⟨gcs, hg⟩ := own_typed HT.out.row g rfl
      refine h3.move (Below.heap_setCell w ⟨g, i, none⟩ _ _ ?_) fun k cs hk _ => Below.heap_setCell w ⟨g, i, none⟩ _ k ?_
      · intro e
        obtain ⟨_, sv, h1, _⟩ := h3
        rw [e] at h1
        rw [hg] at h1
        cases h1
      · rintro rfl
        rw [hg] at hk
        cases hk
    have h4 := h1.put j (bs.getD i 0) (HeapM.get ts i) (by rw [hl]; exact HJ.out) ti
    rw [hl] at h4
    refine ⟨(bs.set i (bs.getD j 0)).set j (bs.getD i 0), rfl, Trees.drewN h4 n, kept2 w g i j _ _ n, pw_below_drewN (((Below.refl base w).setCell hbg _).setCell hbg _) n⟩
  have HF := Aside0.mk fin
  clear fin
  rw [List.getD_eq_getElem?_getD] at hci hcj
  by_cases hij : i = j
  · subst hij
    go_enter Try.func121, Try.ntmps121
    go_wp2_with fail
    go_region_with (fail)
    all_goals go_wp2
    all_goals first | go_end0 | ((try simp only [Exit.inBlock, Exit.then]); refine bodyPost_ret (results_none rfl _ _ _) rfl ?_)
    all_goals have := HF.out
    all_goals rw [List.getD_eq_getElem?_getD] at this
    all_goals exact this 1
  · have hji : ¬ j = i := fun h => hij h.symm
    go_enter Try.func121, Try.ntmps121
    go_wp2_with fail
    go_region_with (fail)
    all_goals go_wp2
    all_goals first | go_end0 | ((try simp only [Exit.inBlock, Exit.then]); refine bodyPost_ret (results_none rfl _ _ _) rfl ?_)
    all_goals have := HF.out
    all_goals rw [List.getD_eq_getElem?_getD, List.getD_eq_getElem?_getD] at this
    all_goals exact this 1
end Go.Proofs.Ytbifignggnfodaa.HeapA
