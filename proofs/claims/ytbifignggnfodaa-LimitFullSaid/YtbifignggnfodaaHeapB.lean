/- The walks of limit's heap, on: Len, Pop and Push of trees behind the heap's variable. -/
import Derived.Test.YtbifignggnfodaaHeapA
namespace Go.Proofs.Ytbifignggnfodaa.HeapA
open Go.RowKit Go.Proofs.YtbifignggnfodaaW.PrintWords Go.Proofs.YtbifignggnfodaaW.PrintLast Go.Proofs.YtbifignggnfodaaW.PrintMore Go.Proofs.Ytbifignggnfodaa.HeapM
set_option linter.unusedVariables false
set_option linter.unusedSimpArgs false
/-- The heap's variable, at block hb. -/
structure HeapAt (W : World) (base ob hb : Nat) (bs : List Nat) (ts : List T) : Prop where
  ex : ∃ v : Value, W.heap[hb]? = some (.cells #[v] 117 (0, 0)) ∧ Trees W base ob v bs ts
  ge : base ≤ hb
theorem Trees.take {W : World} {base ob g cap n : Nat} {bs : List Nat} {ts : List T} (h : Trees W base ob (.slice (some ⟨g, 0, none⟩) n cap) bs ts) (hn : ts.length = n) (m : Nat) (hm : m ≤ n) : Trees W base ob (.slice (some ⟨g, 0, none⟩) m cap) (bs.take m) (ts.take m) := by
  have hl : (ts.take m).length = m := by rw [List.length_take]; omega
  refine ⟨?_, by rw [List.length_take, List.length_take, h.len], fun i hi => ?_⟩
  · have hr := h.row
    rw [hn] at hr
    have := own_take hr hm
    rw [hl, List.map_take]
    simpa using this
  · rw [hl] at hi
    have h1 := h.at_ i (by omega)
    have e1 : (bs.take m).getD i 0 = bs.getD i 0 := by rw [List.getD_eq_getElem?_getD, List.getD_eq_getElem?_getD, List.getElem?_take, if_pos hi]
    have e2 : HeapM.get (ts.take m) i = HeapM.get ts i := by unfold HeapM.get; rw [List.getD_eq_getElem?_getD, List.getD_eq_getElem?_getD, List.getElem?_take, if_pos hi]
    rw [e1, e2]
    exact h1
set_option maxHeartbeats 8000000 in
set_option maxRecDepth 100000 in
theorem len_any (w : World) (A : Option Addr) (n cap : Nat) :
    Calls Try.prog 94 #[.slice A n cap] w fun e w' => e = .returned (.int .i64 n) ∧ w = w' := by
  go_enter Try.func94, Try.ntmps94
  go_wp2
  go_ret
  exact ⟨rfl, rfl⟩
/-- What Pop leaves. -/
def Popped (w : World) (base ob hb : Nat) (bs : List Nat) (ts : List T) (e : Ending) (w' : World) : Prop := e = .returned (.iface 118 (ptr (bs.getD (ts.length - 1) 0))) ∧ HeapAt w' base ob hb (bs.take (ts.length - 1)) (ts.take (ts.length - 1)) ∧ TreeAt w' base ob (bs.getD (ts.length - 1) 0) (HeapM.get ts (ts.length - 1)) ∧ Kept w w' (fun k => k = hb) ∧ Below base w w'
set_option maxHeartbeats 8000000 in
set_option maxRecDepth 100000 in
theorem tpop_any (w : World) (base ob hb : Nat) (bs : List Nat) (ts : List T) (h : HeapAt w base ob hb bs ts) (h0 : 0 < ts.length) (hmax : ts.length ≤ 1000) :
    Calls Try.prog 122 #[.pointer (some ⟨hb, 0, none⟩)] w (Popped w base ob hb bs ts) := by
  obtain ⟨⟨v, hv, ht⟩, hge⟩ := h
  obtain ⟨g, cap, rfl, hg0, hg1⟩ := ht.form h0
  obtain ⟨n, hn⟩ : ∃ n, ts.length = n + 1 := ⟨ts.length - 1, by omega⟩
  have hcn : n + 1 ≤ cap := by
    have := own_cap (by have := ht.row; exact this)
    omega
  have hc := ht.cell n (by omega)
  unfold ptr at hc
  have HT := Aside0.mk ht
  have HV := Aside0.mk hv
  have HG := Aside0.mk hge
  have hcv : w.cell? ⟨hb, 0, none⟩ = some (.slice (some ⟨g, 0, none⟩) (n + 1) cap) := by rw [← hn]; exact (blk_cell hv 0).trans rfl
  have hfv : w.frozen? ⟨hb, 0, none⟩ = false := blk_frozen hv 0
  have HN := Aside0.mk hn
  have hb1 : (n : Int) ≤ 1000 := by omega
  have hb0 : (0 : Int) ≤ (n : Int) := by omega
  have hb2 : (n : Int) ≤ ((n + 1 : Nat) : Int) := by omega
  clear ht hv hge hn h0 hg0 hg1
  go_enter Try.func122, Try.ntmps122
  go_wp2
  go_ret
  have fin : Popped w base ob hb bs ts (.returned (.iface 118 (ptr (bs.getD n 0)))) (w.setCell ⟨hb, 0, none⟩ (.slice (some ⟨g, 0, none⟩) n cap)) := by
    have hn := HN.out
    have e1 : ts.length - 1 = n := by omega
    have ht := HT.out.take rfl n (by omega)
    obtain ⟨gcs, hg⟩ := own_typed HT.out.row g rfl
    have mvT : ∀ (q : Nat) (t : T), TreeAt w base ob q t → TreeAt (w.setCell ⟨hb, 0, none⟩ (.slice (some ⟨g, 0, none⟩) n cap)) base ob q t := fun q t hq => by
      refine hq.move (Below.heap_setCell w ⟨hb, 0, none⟩ _ q ?_) fun k cs hk _ => Below.heap_setCell w ⟨hb, 0, none⟩ _ k ?_
      · intro e
        obtain ⟨_, sv, h1, _⟩ := hq
        rw [e, HV.out] at h1
        cases h1
      · intro e
        rw [e, HV.out] at hk
        cases hk
    unfold Popped
    rw [e1]
    refine ⟨rfl, ⟨⟨_, blk_put HV.out 0 _ rfl, ?_, ht.len, fun i hi => mvT _ _ (ht.at_ i hi)⟩, HG.out⟩, mvT _ _ (HT.out.at_ n (by omega)), ?_, (Below.refl base w).setCell HG.out _⟩
    · refine own_move ht.row fun k hk => Below.heap_setCell w ⟨hb, 0, none⟩ _ k ?_
      have : g = k := by simpa [Value.ownBlock] using hk
      subst this
      intro e
      rw [e, HV.out] at hg
      cases hg
    · exact Kept.setCell (Kept.refl w (fun k => k = hb)) (p := ⟨hb, 0, none⟩) (Or.inl (Eq.refl hb)) _
  have := fin
  unfold ptr at this
  rw [List.getD_eq_getElem?_getD] at this
  exact this
theorem info118 : (Try.prog.info? 118).map (fun i => (i.zero, i.size, i.bytes)) = some (some (.pointer none), 1, 8) := by kernel_rfl
/-- What Push leaves. -/
def Pushed (w : World) (base ob hb b : Nat) (bs : List Nat) (ts : List T) (t : T) (e : Ending) (w' : World) : Prop := e = .returned (.tuple #[]) ∧ HeapAt w' base ob hb (bs ++ [b]) (ts ++ [t]) ∧ Below base w w' ∧ ∃ v : Value, w.heap[hb]? = some (.cells #[v] 117 (0, 0)) ∧ Kept w w' (fun k => k = hb ∨ v.ownBlock = some k)
theorem pushed_fin {w W0 w3 : World} {base ob hb b gg cap : Nat} {bs : List Nat} {ts : List T} {t : T} {v : Value} (hW : Below w.heap.size w W0) (hg : W0.grownBy w3 v.ownBlock) (H1 : w3.ownsRow base 118 1 (.slice (some ⟨gg, 0, none⟩) (ts.length + 1) cap) (ts.length + 1) (bs.map ptr ++ [ptr b]))
    (BK3 : w3.heap[hb]? = some (.cells #[v] 117 (0, 0))) (HT : Trees w base ob v bs ts) (HV : w.heap[hb]? = some (.cells #[v] 117 (0, 0))) (HG : base ≤ hb) (HB : TreeAt w base ob b t) (hbw : base ≤ w.heap.size) :
    Pushed w base ob hb b bs ts t (.returned (.tuple #[])) (w3.setCell ⟨hb, 0, none⟩ (.slice (some ⟨gg, 0, none⟩) (ts.length + 1) cap)) := by
  have step : ∀ k : Nat, k < w.heap.size → k ≠ hb → v.ownBlock ≠ some k → (w3.setCell ⟨hb, 0, none⟩ (.slice (some ⟨gg, 0, none⟩) (ts.length + 1) cap)).heap[k]? = w.heap[k]? := fun k h1 h2 h3 =>
    (Below.heap_setCell w3 ⟨hb, 0, none⟩ _ k h2).trans ((hg.block k (by have := hW.size; omega) (fun e => h3 e.symm)).trans (hW.block k h1))
  have mvT : ∀ (q : Nat) (t : T), TreeAt w base ob q t → TreeAt (w3.setCell ⟨hb, 0, none⟩ (.slice (some ⟨gg, 0, none⟩) (ts.length + 1) cap)) base ob q t := fun q t hq => by
    have hq0 := hq
    obtain ⟨_, sv, h1, _⟩ := hq0
    refine hq.move (step q (blk_lt h1) ?_ ?_) fun k cs hk _ => step k (blk_lt hk) ?_ ?_
    · intro e; rw [e, HV] at h1; cases h1
    · intro e
      obtain ⟨cs, hc⟩ := own_typed HT.row q e
      rw [h1] at hc; cases hc
    · intro e; rw [e, HV] at hk; cases hk
    · intro e
      obtain ⟨cs, hc⟩ := own_typed HT.row k e
      rw [hk] at hc; cases hc
  obtain ⟨gcs, hgc⟩ := own_typed H1 gg rfl
  have hl : (ts ++ [t]).length = ts.length + 1 := by simp
  refine ⟨rfl, ⟨⟨_, blk_put BK3 0 _ rfl, ?_, by rw [List.length_append, hl, HT.len]; rfl, fun i hi => ?_⟩, HG⟩, ⟨?_, ?_, ?_, ?_, ?_⟩, v, HV, ?_, ?_⟩
  · rw [hl, List.map_append]
    refine own_move H1 fun k hk => Below.heap_setCell w3 ⟨hb, 0, none⟩ _ k ?_
    have : gg = k := by simpa [Value.ownBlock] using hk
    subst this
    intro e
    rw [e, BK3] at hgc
    cases hgc
  · rw [hl] at hi
    by_cases hi2 : i < ts.length
    · have e1 : (bs ++ [b]).getD i 0 = bs.getD i 0 := by rw [List.getD_eq_getElem?_getD, List.getD_eq_getElem?_getD, List.getElem?_append_left (by rw [HT.len]; exact hi2)]
      have e2 : HeapM.get (ts ++ [t]) i = HeapM.get ts i := by unfold HeapM.get; rw [List.getD_eq_getElem?_getD, List.getD_eq_getElem?_getD, List.getElem?_append_left hi2]
      rw [e1, e2]
      exact mvT _ _ (HT.at_ i hi2)
    · have e0 : i = ts.length := by omega
      have e1 : (bs ++ [b]).getD i 0 = b := by rw [List.getD_eq_getElem?_getD, List.getElem?_append_right (by rw [HT.len]; omega), HT.len, e0, Nat.sub_self]; rfl
      have e2 : HeapM.get (ts ++ [t]) i = t := by unfold HeapM.get; rw [List.getD_eq_getElem?_getD, List.getElem?_append_right (by omega), e0, Nat.sub_self]; rfl
      rw [e1, e2]
      exact mvT _ _ HB
  · exact hg.os.trans hW.os
  · exact hg.tape.trans hW.tape
  · exact hg.output.trans hW.output
  · have h1 := hg.size
    have h2 := hW.size
    rw [Go.World.size_setCell]
    omega
  · intro k hk
    exact step k (by omega) (by omega) (fun e => by have := own_base HT.row k e; omega)
  · have h1 := hg.size
    have h2 := hW.size
    rw [Go.World.size_setCell]
    omega
  · intro k hk hs
    exact step k hk (fun e => hs (.inl e)) (fun e => hs (.inr e))
set_option maxHeartbeats 8000000 in
set_option maxRecDepth 100000 in
theorem tpush_any (w : World) (base ob hb b : Nat) (bs : List Nat) (ts : List T) (t : T) (h : HeapAt w base ob hb bs ts) (hb0 : TreeAt w base ob b t) (hmax : ts.length ≤ 1000) :
    Calls Try.prog 123 #[.pointer (some ⟨hb, 0, none⟩), .iface 118 (.pointer (some ⟨b, 0, none⟩))] w (Pushed w base ob hb b bs ts t) := by
  obtain ⟨⟨v, hv, ht⟩, hge⟩ := h
  obtain ⟨i0, hi0, hz0, hz1, hz2⟩ := info_parts info118
  have HT := Aside0.mk ht
  have HV := Aside0.mk hv
  have HG := Aside0.mk hge
  have HB := Aside0.mk hb0
  have HM := Aside0.mk hmax
  have hlt := Aside0.mk (blk_lt hv)
  have hcv : w.cell? ⟨hb, 0, none⟩ = some v := (blk_cell hv 0).trans rfl
  have hcv2 : (w.alloc (.cells #[.pointer (some ⟨b, 0, none⟩)] 118)).cell? ⟨hb, 0, none⟩ = some v := (blk_cell (blk_alloc hv _) 0).trans rfl
  have hne : Aside0 (some hb ≠ v.ownBlock) := ⟨fun e => by
    obtain ⟨cs, hc⟩ := own_typed ht.row hb e.symm
    rw [hv] at hc
    cases hc⟩
  have hta : ∀ W : World, (Instr.typeAssert (.iface 118 (.pointer (some ⟨b, 0, none⟩))) 20 118 false).run Try.prog W = .ok (.pointer (some ⟨b, 0, none⟩)) W := fun W => by first | kernel_rfl | rfl
  clear ht hv hge hb0 hmax
  go_enter Try.func123, Try.ntmps123
  go_wp2_with fail
  go_region_law ((refine step_append_lies _ (by rfl) _ _ _ (by rfl) base 118 i0 _ 1 8 Try.underlying117 hi0 hz0 hz1 hz2 rfl (by omega) v ts.length (bs.map ptr) (by rfl) (pw_own_below HT.out.row (by repeat (first | exact Below.refl _ _ | apply below_alloc | apply pw_below_drewN | apply below_drew1))) ⟨w.heap.size, 0, none⟩ 1 1 [.pointer (some ⟨b, 0, none⟩)] (by rfl) (by rfl) (World.news_of_block (cs := #[.pointer (some ⟨b, 0, none⟩)]) (t := 118) (fr := (0, 0)) (heap_alloc_new w _)) (by simp [Value.oneCell']) (by omega) (by have := HM.out; unfold maxLen; omega) (by have := HM.out; omega) (by have := hlt.out; have := HG.out; simp; omega) (w.heap.size + 1) (by simp) ?_; intro gg cap w3 hown1 hgrow hat hl3; have BK3 : Aside0 (w3.heap[hb]? = some (.cells #[v] 117 (0, 0))) := ⟨(hgrow.block hb (by have := hlt.out; simp; omega) hne.out).trans (by (with_reducible repeat (first | refine blk_drewN ?_ _ | refine blk_drew ?_ | refine blk_alloc ?_ _)); exact HV.out)⟩; have H1 := Aside0.mk hown1; have H2 := Aside0.mk hgrow; have H3 := Aside0.mk hat; clear hown1 hgrow hat hl3; have hcw : w3.cell? ⟨hb, 0, none⟩ = some v := (blk_cell BK3.out 0).trans rfl; have hfw : w3.frozen? ⟨hb, 0, none⟩ = false := blk_frozen BK3.out 0))
  all_goals go_wp2
  all_goals first | go_end0 | ((try simp only [Exit.inBlock, Exit.then]); refine bodyPost_ret (results_none rfl _ _ _) rfl ?_)
  all_goals exact pushed_fin (by repeat (first | exact Below.refl _ _ | apply below_alloc | apply pw_below_drewN | apply below_drew1)) H2.out H1.out BK3.out HT.out HV.out HG.out HB.out (by have := hlt.out; have := HG.out; omega)
end Go.Proofs.Ytbifignggnfodaa.HeapA
