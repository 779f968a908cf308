-- Written by a program of this session out of the translation (a changed copy of the kit's printer).
import Derived.Test.YtbifignggnfodaaBW0
import Derived.Test.YtbifignggnfodaaBW1
import Derived.Test.YtbifignggnfodaaBW4
namespace Go.Proofs.Ytbifignggnfodaa.BW
open Go.RowKit Go.Proofs.YtbifignggnfodaaW.PrintWords Go.Proofs.YtbifignggnfodaaW.PrintLast Go.Proofs.YtbifignggnfodaaW.PrintMore
attribute [local go_sem] max2_int min2_int max_two min_two max_three min_three max_four min_four   -- for this text's walks alone
set_option linter.unusedVariables false
set_option linter.unusedSimpArgs false

/-! ### portageref1_Writer_Code: function 39 -/
mutual
def portageref1_Writer_Code.j0 : Nat → Bool → List Int → Int → Int → Int → Option (Int × List Int × Int)
  | 0, _, _, _, _, _ => none
  | k + 1, x36, x1000, x1001, x140000, x140001 => if x36 = true then (some (100, x1000, x1001)) else (portageref1_Writer_Code.l0 k (wrap64 (x140000 - 1)) x1000 x1001 x140000 x140001)
def portageref1_Writer_Code.l0 : Nat → Int → List Int → Int → Int → Int → Option (Int × List Int × Int)
  | 0, _, _, _, _, _ => none
  | k + 1, x5, x1000, x1001, x140000, x140001 => if x5 ≥ 0 then (if 0 ≤ x5 then ((portageref1_Writer_one.f x1000 x1001 (Go.bits .and .i64 (shr .i64 x140001 x5) 1)).bind fun bt140 => (portageref1_Writer_Code.l0 k (wrap64 (x5 - 1)) bt140.1 bt140.2 x140000 x140001)) else (none)) else (some (0, x1000, x1001))
end
def portageref1_Writer_Code.f (k : Nat) (s0_0 : List Int) (s0_1 : Int) (a1_0 : Int) (a1_1 : Int) : Option (Int × List Int × Int) := if a1_0 < 1 then (portageref1_Writer_Code.j0 k true s0_0 s0_1 a1_0 a1_1) else (if a1_0 > 15 then (portageref1_Writer_Code.j0 k true s0_0 s0_1 a1_0 a1_1) else (if a1_1 < 0 then (portageref1_Writer_Code.j0 k true s0_0 s0_1 a1_0 a1_1) else (if 0 ≤ a1_0 then (if a1_1 ≥ (shl .i64 1 a1_0) then (portageref1_Writer_Code.j0 k true s0_0 s0_1 a1_0 a1_1) else (portageref1_Writer_Code.j0 k (decide ((wrap64 (s0_1 + a1_0)) > 65536)) s0_0 s0_1 a1_0 a1_1)) else (none))))
theorem portageref1_Writer_Code.mono_l : ∀ k, (∀ y0 y1 y2 y3 y4, LeO (portageref1_Writer_Code.j0 k y0 y1 y2 y3 y4) (portageref1_Writer_Code.j0 (k + 1) y0 y1 y2 y3 y4)) ∧ (∀ y0 y1 y2 y3 y4, LeO (portageref1_Writer_Code.l0 k y0 y1 y2 y3 y4) (portageref1_Writer_Code.l0 (k + 1) y0 y1 y2 y3 y4))
  | 0 => ⟨fun _ _ _ _ _ r h => by simp [portageref1_Writer_Code.j0] at h, fun _ _ _ _ _ r h => by simp [portageref1_Writer_Code.l0] at h⟩
  | k + 1 => by
    obtain ⟨ih0, ih1⟩ := portageref1_Writer_Code.mono_l k
    refine ⟨?_, ?_⟩
    · intro y0 y1 y2 y3 y4
      unfold portageref1_Writer_Code.j0
      repeat' first
      | (with_reducible exact ih0 _ _ _ _ _)
      | (with_reducible exact ih1 _ _ _ _ _)
      | (with_reducible exact LeO.refl _)
      | (with_reducible exact LeO.none _)
      | (with_reducible refine LeO.ite ?_ ?_)
      | (with_reducible refine LeO.bind ?_ (fun _ => ?_))
      | exact ih0 _ _ _ _ _
      | exact ih1 _ _ _ _ _
      | exact LeO.none _
      | refine LeO.ite ?_ ?_
      | refine LeO.bind ?_ (fun _ => ?_)
    · intro y0 y1 y2 y3 y4
      unfold portageref1_Writer_Code.l0
      repeat' first
      | (with_reducible exact ih0 _ _ _ _ _)
      | (with_reducible exact ih1 _ _ _ _ _)
      | (with_reducible exact LeO.refl _)
      | (with_reducible exact LeO.none _)
      | (with_reducible refine LeO.ite ?_ ?_)
      | (with_reducible refine LeO.bind ?_ (fun _ => ?_))
      | exact ih0 _ _ _ _ _
      | exact ih1 _ _ _ _ _
      | exact LeO.none _
      | refine LeO.ite ?_ ?_
      | refine LeO.bind ?_ (fun _ => ?_)
theorem portageref1_Writer_Code.mono : ∀ a0 a1 a2 a3 k, LeO (portageref1_Writer_Code.f k a0 a1 a2 a3) (portageref1_Writer_Code.f (k + 1) a0 a1 a2 a3) := by
  intro a0 a1 a2 a3 k
  obtain ⟨ih0, ih1⟩ := portageref1_Writer_Code.mono_l k
  unfold portageref1_Writer_Code.f
  repeat' first
      | (with_reducible exact ih0 _ _ _ _ _)
      | (with_reducible exact ih1 _ _ _ _ _)
      | (with_reducible exact LeO.refl _)
      | (with_reducible exact LeO.none _)
      | (with_reducible refine LeO.ite ?_ ?_)
      | (with_reducible refine LeO.bind ?_ (fun _ => ?_))
      | exact ih0 _ _ _ _ _
      | exact ih1 _ _ _ _ _
      | exact LeO.none _
      | refine LeO.ite ?_ ?_
      | refine LeO.bind ?_ (fun _ => ?_)
set_option maxHeartbeats 8000000 in
set_option maxRecDepth 100000 in
theorem portageref1_Writer_Code.calls (k : Nat) (P0_ : Nat → Prop) (g : Nat) (s0_0 : List Int) (s0_1 : Int) (a1_0 : Int) (a1_1 : Int) (r1 : Int) (r2 : List Int) (r3 : Int) (w0 w : World) (hB : Below w0.heap.size w0 w) (hO : IsO56 w0 w P0_ g s0_0 s0_1) (h : portageref1_Writer_Code.f k s0_0 s0_1 a1_0 a1_1 = some (r1, r2, r3)) :
    Calls Try.prog 39 #[.pointer (some ⟨g, 0, none⟩), .agg #[.int .i64 a1_0, .int .i64 a1_1]] w fun e w' => e = .returned (.int .i64 r1) ∧ IsO56 w0 w' (fun k_ => (P0_ k_ ∨ w.heap.size ≤ k_)) g r2 r3 ∧ Below w0.heap.size w0 w' ∧ Kept w w' (fun k_ => P0_ k_) := by
  have hu43 := Try.underlying43
  obtain ⟨u9500_, hbk_, hge_, hpg_, ho_⟩ := hO
  have BK0 := Aside0.mk hbk_
  have GE0 := Aside0.mk hge_
  have HPG0 := Aside0.mk hpg_
  have HOs0_0 := Aside0.mk (show Kd.R (Kd.int .u8) 5 w w0.heap.size (fun k_ => (P0_ k_ ∨ w.heap.size ≤ k_)) u9500_ s0_0 from Kd.R_mono ho_ (fun k_ hk => .inl hk.1))
  clear hbk_ hge_ hpg_ ho_
  have HK := Aside0.mk (Kept.refl w (fun k_ => P0_ k_))
  have HW0 := Aside0.mk hB.size
  have HB := Aside0.mk hB
  clear hB
  have H : (if a1_0 < 1 then (portageref1_Writer_Code.j0 k true s0_0 s0_1 a1_0 a1_1) else (if a1_0 > 15 then (portageref1_Writer_Code.j0 k true s0_0 s0_1 a1_0 a1_1) else (if a1_1 < 0 then (portageref1_Writer_Code.j0 k true s0_0 s0_1 a1_0 a1_1) else (if 0 ≤ a1_0 then (if a1_1 ≥ (shl .i64 1 a1_0) then (portageref1_Writer_Code.j0 k true s0_0 s0_1 a1_0 a1_1) else (portageref1_Writer_Code.j0 k (decide ((wrap64 (s0_1 + a1_0)) > 65536)) s0_0 s0_1 a1_0 a1_1)) else (none))))) = some (r1, r2, r3) := h
  clear h
  have HC3 := Aside0.mk H
  clear H
  go_enter Try.func39, Try.ntmps39
  go_upto_region 1 with (first | ((with_reducible refine gate_dst (N := 3) rfl ?_); refine box_event ?hg (N := 3) ?hd (cs := #[.int .i64 a1_0, .int .i64 a1_1]) (t := 43) ?hr ?_; (case hd => rfl); (case hg => rfl); (case hr => first | (go_simp; done) | (go_simp; rfl)); intro gb139 hg w4 hbox hb; have n0_ := Aside0.mk (Kd.R_below (by (with_reducible repeat (first | apply Kd.R_alloc | apply Kd.R_drewN | apply Kd.R_drew)); exact HOs0_0.out) hb); have n1_ := Aside0.mk (blk_below (g := g) (o := .cells #[u9500_, .int .i64 s0_1] 56 (0, 0)) (by (with_reducible repeat (first | refine blk_drewN ?_ _ | refine blk_drew ?_ | refine blk_alloc ?_ _)); exact BK0.out) hb); have n2_ := Aside0.mk (Kept.below (S := (fun k_ => P0_ k_)) (by repeat (first | (with_reducible first | exact HK.out | apply Kept.alloc | apply Kept.drewN | apply Kept.drew | refine Kept.setCell ?_ (.inl HPG0.out) _) | exact HK.out)) hb); have n3_ := Aside0.mk (below_step (by repeat (first | (with_reducible first | exact HB.out | apply below_alloc | apply pw_below_drewN | apply below_drew1 | refine below_set ?_ GE0.out) | exact HB.out)) hb); have n4_ := Aside0.mk (hbox); have n5_ := Aside0.mk ((by rw [hg]; exact (by first | exact HK.out.1 | exact (show Kept w _ (fun k_ => P0_ k_) from by repeat (first | (with_reducible first | exact HK.out | apply Kept.alloc | apply Kept.drewN | apply Kept.drew | refine Kept.setCell ?_ (.inl HPG0.out) _) | exact HK.out)).1) : w.heap.size ≤ gb139)); have n6_ := Aside0.mk ((by rw [hg]; exact (below_size (by repeat (first | (with_reducible first | exact HB.out | apply below_alloc | apply pw_below_drewN | apply below_drew1 | refine below_set ?_ GE0.out) | exact HB.out))) : w0.heap.size ≤ gb139)); have n7_ := Aside0.mk ((by rw [hg]; exact Nat.ne_of_lt (blk_lt (g := g) (o := .cells #[u9500_, .int .i64 s0_1] 56 (0, 0)) (by (with_reducible repeat (first | refine blk_drewN ?_ _ | refine blk_drew ?_ | refine blk_alloc ?_ _)); exact BK0.out)) : g ≠ gb139)); have n8_ := Aside0.mk ((by rw [hg]; exact Nat.ne_of_gt (blk_lt (g := g) (o := .cells #[u9500_, .int .i64 s0_1] 56 (0, 0)) (by (with_reducible repeat (first | refine blk_drewN ?_ _ | refine blk_drew ?_ | refine blk_alloc ?_ _)); exact BK0.out)) : gb139 ≠ g)); clear HOs0_0; clear BK0; clear HK; clear HB; have HOs0_0 := n0_; have BK0 := n1_; have HK := n2_; have HB := n3_; have BK139 := n4_; have GW139 := n5_; have GE139 := n6_; have NB0_139 := n7_; have NB139_0 := n8_; clear n0_ n1_ n2_ n3_ n4_ n5_ n6_ n7_ n8_; clear hb hbox hg))
  repeat (go_quiet (first | ((with_reducible refine gate_dst (N := 3) rfl ?_); refine box_event ?hg (N := 3) ?hd (cs := #[.int .i64 a1_0, .int .i64 a1_1]) (t := 43) ?hr ?_; (case hd => rfl); (case hg => rfl); (case hr => first | (go_simp; done) | (go_simp; rfl)); intro gb139 hg w4 hbox hb; have n0_ := Aside0.mk (Kd.R_below (by (with_reducible repeat (first | apply Kd.R_alloc | apply Kd.R_drewN | apply Kd.R_drew)); exact HOs0_0.out) hb); have n1_ := Aside0.mk (blk_below (g := g) (o := .cells #[u9500_, .int .i64 s0_1] 56 (0, 0)) (by (with_reducible repeat (first | refine blk_drewN ?_ _ | refine blk_drew ?_ | refine blk_alloc ?_ _)); exact BK0.out) hb); have n2_ := Aside0.mk (Kept.below (S := (fun k_ => P0_ k_)) (by repeat (first | (with_reducible first | exact HK.out | apply Kept.alloc | apply Kept.drewN | apply Kept.drew | refine Kept.setCell ?_ (.inl HPG0.out) _) | exact HK.out)) hb); have n3_ := Aside0.mk (below_step (by repeat (first | (with_reducible first | exact HB.out | apply below_alloc | apply pw_below_drewN | apply below_drew1 | refine below_set ?_ GE0.out) | exact HB.out)) hb); have n4_ := Aside0.mk (hbox); have n5_ := Aside0.mk ((by rw [hg]; exact (by first | exact HK.out.1 | exact (show Kept w _ (fun k_ => P0_ k_) from by repeat (first | (with_reducible first | exact HK.out | apply Kept.alloc | apply Kept.drewN | apply Kept.drew | refine Kept.setCell ?_ (.inl HPG0.out) _) | exact HK.out)).1) : w.heap.size ≤ gb139)); have n6_ := Aside0.mk ((by rw [hg]; exact (below_size (by repeat (first | (with_reducible first | exact HB.out | apply below_alloc | apply pw_below_drewN | apply below_drew1 | refine below_set ?_ GE0.out) | exact HB.out))) : w0.heap.size ≤ gb139)); have n7_ := Aside0.mk ((by rw [hg]; exact Nat.ne_of_lt (blk_lt (g := g) (o := .cells #[u9500_, .int .i64 s0_1] 56 (0, 0)) (by (with_reducible repeat (first | refine blk_drewN ?_ _ | refine blk_drew ?_ | refine blk_alloc ?_ _)); exact BK0.out)) : g ≠ gb139)); have n8_ := Aside0.mk ((by rw [hg]; exact Nat.ne_of_gt (blk_lt (g := g) (o := .cells #[u9500_, .int .i64 s0_1] 56 (0, 0)) (by (with_reducible repeat (first | refine blk_drewN ?_ _ | refine blk_drew ?_ | refine blk_alloc ?_ _)); exact BK0.out)) : gb139 ≠ g)); clear HOs0_0; clear BK0; clear HK; clear HB; have HOs0_0 := n0_; have BK0 := n1_; have HK := n2_; have HB := n3_; have BK139 := n4_; have GW139 := n5_; have GE139 := n6_; have NB0_139 := n7_; have NB139_0 := n8_; clear n0_ n1_ n2_ n3_ n4_ n5_ n6_ n7_ n8_; clear hb hbox hg)); go_upto_region 1 with (first | ((with_reducible refine gate_dst (N := 3) rfl ?_); refine box_event ?hg (N := 3) ?hd (cs := #[.int .i64 a1_0, .int .i64 a1_1]) (t := 43) ?hr ?_; (case hd => rfl); (case hg => rfl); (case hr => first | (go_simp; done) | (go_simp; rfl)); intro gb139 hg w4 hbox hb; have n0_ := Aside0.mk (Kd.R_below (by (with_reducible repeat (first | apply Kd.R_alloc | apply Kd.R_drewN | apply Kd.R_drew)); exact HOs0_0.out) hb); have n1_ := Aside0.mk (blk_below (g := g) (o := .cells #[u9500_, .int .i64 s0_1] 56 (0, 0)) (by (with_reducible repeat (first | refine blk_drewN ?_ _ | refine blk_drew ?_ | refine blk_alloc ?_ _)); exact BK0.out) hb); have n2_ := Aside0.mk (Kept.below (S := (fun k_ => P0_ k_)) (by repeat (first | (with_reducible first | exact HK.out | apply Kept.alloc | apply Kept.drewN | apply Kept.drew | refine Kept.setCell ?_ (.inl HPG0.out) _) | exact HK.out)) hb); have n3_ := Aside0.mk (below_step (by repeat (first | (with_reducible first | exact HB.out | apply below_alloc | apply pw_below_drewN | apply below_drew1 | refine below_set ?_ GE0.out) | exact HB.out)) hb); have n4_ := Aside0.mk (hbox); have n5_ := Aside0.mk ((by rw [hg]; exact (by first | exact HK.out.1 | exact (show Kept w _ (fun k_ => P0_ k_) from by repeat (first | (with_reducible first | exact HK.out | apply Kept.alloc | apply Kept.drewN | apply Kept.drew | refine Kept.setCell ?_ (.inl HPG0.out) _) | exact HK.out)).1) : w.heap.size ≤ gb139)); have n6_ := Aside0.mk ((by rw [hg]; exact (below_size (by repeat (first | (with_reducible first | exact HB.out | apply below_alloc | apply pw_below_drewN | apply below_drew1 | refine below_set ?_ GE0.out) | exact HB.out))) : w0.heap.size ≤ gb139)); have n7_ := Aside0.mk ((by rw [hg]; exact Nat.ne_of_lt (blk_lt (g := g) (o := .cells #[u9500_, .int .i64 s0_1] 56 (0, 0)) (by (with_reducible repeat (first | refine blk_drewN ?_ _ | refine blk_drew ?_ | refine blk_alloc ?_ _)); exact BK0.out)) : g ≠ gb139)); have n8_ := Aside0.mk ((by rw [hg]; exact Nat.ne_of_gt (blk_lt (g := g) (o := .cells #[u9500_, .int .i64 s0_1] 56 (0, 0)) (by (with_reducible repeat (first | refine blk_drewN ?_ _ | refine blk_drew ?_ | refine blk_alloc ?_ _)); exact BK0.out)) : gb139 ≠ g)); clear HOs0_0; clear BK0; clear HK; clear HB; have HOs0_0 := n0_; have BK0 := n1_; have HK := n2_; have HB := n3_; have BK139 := n4_; have GW139 := n5_; have GE139 := n6_; have NB0_139 := n7_; have NB139_0 := n8_; clear n0_ n1_ n2_ n3_ n4_ n5_ n6_ n7_ n8_; clear hb hbox hg)))
  (try simp only [Act.put, List.setIfInBounds_toArray, List.set_cons_zero, List.set_cons_succ])
  go_cut [36] (fun v36 wc => ∃ (kq : Nat) (x36_2 : Bool), v36 = .bool x36_2 ∧ Aside0 (portageref1_Writer_Code.j0 kq x36_2 s0_0 s0_1 a1_0 a1_1 = some (r1, r2, r3)) ∧ Aside0 (kq ≤ k) ∧ Aside0 (Kd.R (Kd.int .u8) 5 wc w0.heap.size (fun k_ => (P0_ k_ ∨ w.heap.size ≤ k_)) u9500_ s0_0) ∧ Aside0 (wc.heap[g]? = some (.cells #[u9500_, .int .i64 s0_1] 56 (0, 0))) ∧ Aside0 (wc.heap[gb139]? = some (.cells #[.int .i64 a1_0, .int .i64 a1_1] 43 (0, 0))) ∧ Aside0 (Kept w wc (fun k_ => P0_ k_)) ∧ Aside0 (Below w0.heap.size w0 wc))
  case first =>
    have H := HC3.out
    clear HC3
    by_cases c5 : a1_0 < 1
    · rw [if_pos c5] at H
      have c5b0 : decide (a1_0 < 1) = true := decide_eq_true c5
      clear c5
      (first | rw [c5b0] | (simp only [i64_w, i32_w]; rw [c5b0]) | skip)
      have H' := Aside0.mk H
      clear H
      have hnb6 := NB139_0.out
      have hnc6 := NB0_139.out
      have hcz7_0 : w4.cell? ⟨gb139, 0, none⟩ = some (.int .i64 a1_0) := (blk_cell BK139.out 0).trans rfl
      have hcz7_1 : w4.cell? ⟨gb139, 1, none⟩ = some (.int .i64 a1_1) := (blk_cell BK139.out 1).trans rfl
      have hfz7_0 := blk_frozen BK139.out 0
      have hfz7_1 := blk_frozen BK139.out 1
      go_wp2
      repeat (go_quiet (fail); try go_wp2)
      go_meet
      case rel => exact ⟨_, (true), (by first | rfl | (simp; done) | (simp [*]; done)), H', ⟨by first | omega | exact Nat.le_refl _⟩, ⟨by (with_reducible repeat (first | apply Kd.R_alloc | apply Kd.R_drewN | apply Kd.R_drew)); exact HOs0_0.out⟩, ⟨by (with_reducible repeat (first | refine blk_drewN ?_ _ | refine blk_drew ?_ | refine blk_alloc ?_ _)); exact BK0.out⟩, ⟨by (with_reducible repeat (first | refine blk_drewN ?_ _ | refine blk_drew ?_ | refine blk_alloc ?_ _)); exact BK139.out⟩, ⟨by repeat (first | (with_reducible first | exact HK.out | apply Kept.alloc | apply Kept.drewN | apply Kept.drew | refine Kept.setCell ?_ (.inl HPG0.out) _ | refine Kept.setCell ?_ (.inr GW139.out) _) | exact HK.out)⟩, ⟨by repeat (first | (with_reducible first | exact HB.out | apply below_alloc | apply pw_below_drewN | apply below_drew1 | refine below_set ?_ GE0.out | refine below_set ?_ GE139.out) | exact HB.out)⟩⟩
    · rw [if_neg c5] at H
      have c5b0 : decide (a1_0 < 1) = false := decide_eq_false c5
      clear c5
      (first | rw [c5b0] | (simp only [i64_w, i32_w]; rw [c5b0]) | skip)
      by_cases c8 : a1_0 > 15
      · rw [if_pos c8] at H
        have c8b0 : decide (15 < a1_0) = true := decide_eq_true c8
        clear c8
        have H' := Aside0.mk H
        clear H
        have hnb9 := NB139_0.out
        have hnc9 := NB0_139.out
        have hcz10_0 : w4.cell? ⟨gb139, 0, none⟩ = some (.int .i64 a1_0) := (blk_cell BK139.out 0).trans rfl
        have hcz10_1 : w4.cell? ⟨gb139, 1, none⟩ = some (.int .i64 a1_1) := (blk_cell BK139.out 1).trans rfl
        have hfz10_0 := blk_frozen BK139.out 0
        have hfz10_1 := blk_frozen BK139.out 1
        go_wp2
        repeat (go_quiet (fail); try go_wp2)
        go_meet
        case rel => exact ⟨_, (true), (by first | rfl | (simp; done) | (simp [*]; done)), H', ⟨by first | omega | exact Nat.le_refl _⟩, ⟨by (with_reducible repeat (first | apply Kd.R_alloc | apply Kd.R_drewN | apply Kd.R_drew)); exact HOs0_0.out⟩, ⟨by (with_reducible repeat (first | refine blk_drewN ?_ _ | refine blk_drew ?_ | refine blk_alloc ?_ _)); exact BK0.out⟩, ⟨by (with_reducible repeat (first | refine blk_drewN ?_ _ | refine blk_drew ?_ | refine blk_alloc ?_ _)); exact BK139.out⟩, ⟨by repeat (first | (with_reducible first | exact HK.out | apply Kept.alloc | apply Kept.drewN | apply Kept.drew | refine Kept.setCell ?_ (.inl HPG0.out) _ | refine Kept.setCell ?_ (.inr GW139.out) _) | exact HK.out)⟩, ⟨by repeat (first | (with_reducible first | exact HB.out | apply below_alloc | apply pw_below_drewN | apply below_drew1 | refine below_set ?_ GE0.out | refine below_set ?_ GE139.out) | exact HB.out)⟩⟩
      · rw [if_neg c8] at H
        have c8b0 : decide (15 < a1_0) = false := decide_eq_false c8
        clear c8
        by_cases c11 : a1_1 < 0
        · rw [if_pos c11] at H
          have c11b0 : decide (a1_1 < 0) = true := decide_eq_true c11
          clear c11
          have H' := Aside0.mk H
          clear H
          have hnb12 := NB139_0.out
          have hnc12 := NB0_139.out
          have hcz13_0 : w4.cell? ⟨gb139, 0, none⟩ = some (.int .i64 a1_0) := (blk_cell BK139.out 0).trans rfl
          have hcz13_1 : w4.cell? ⟨gb139, 1, none⟩ = some (.int .i64 a1_1) := (blk_cell BK139.out 1).trans rfl
          have hfz13_0 := blk_frozen BK139.out 0
          have hfz13_1 := blk_frozen BK139.out 1
          go_wp2
          repeat (go_quiet (fail); try go_wp2)
          go_meet
          case rel => exact ⟨_, (true), (by first | rfl | (simp; done) | (simp [*]; done)), H', ⟨by first | omega | exact Nat.le_refl _⟩, ⟨by (with_reducible repeat (first | apply Kd.R_alloc | apply Kd.R_drewN | apply Kd.R_drew)); exact HOs0_0.out⟩, ⟨by (with_reducible repeat (first | refine blk_drewN ?_ _ | refine blk_drew ?_ | refine blk_alloc ?_ _)); exact BK0.out⟩, ⟨by (with_reducible repeat (first | refine blk_drewN ?_ _ | refine blk_drew ?_ | refine blk_alloc ?_ _)); exact BK139.out⟩, ⟨by repeat (first | (with_reducible first | exact HK.out | apply Kept.alloc | apply Kept.drewN | apply Kept.drew | refine Kept.setCell ?_ (.inl HPG0.out) _ | refine Kept.setCell ?_ (.inr GW139.out) _) | exact HK.out)⟩, ⟨by repeat (first | (with_reducible first | exact HB.out | apply below_alloc | apply pw_below_drewN | apply below_drew1 | refine below_set ?_ GE0.out | refine below_set ?_ GE139.out) | exact HB.out)⟩⟩
        · rw [if_neg c11] at H
          have c11b0 : decide (a1_1 < 0) = false := decide_eq_false c11
          clear c11
          by_cases c14 : 0 ≤ a1_0
          · rw [if_pos c14] at H
            have c14b0 := eq_true c14
            have c14b1 : decide (0 ≤ a1_0) = true := decide_eq_true c14
            clear c14
            obtain ⟨ji15, hji15⟩ : ∃ j_ : Int, (shl .i64 1 a1_0) = j_ := ⟨_, rfl⟩
            replace H : (if a1_1 ≥ (ji15) then (portageref1_Writer_Code.j0 k true s0_0 s0_1 a1_0 a1_1) else (portageref1_Writer_Code.j0 k (decide ((wrap64 (s0_1 + a1_0)) > 65536)) s0_0 s0_1 a1_0 a1_1)) = some (r1, r2, r3) := by first | (rw [hji15] at H; exact H) | (simp only [hji15] at H ⊢; exact H)
            have hji15_ : (IntKind.i64.wrap (1 * 2 ^ min a1_0.toNat 64)) = ji15 := hji15
            have hji15z : a1_0 ≤ 64 → (IntKind.i64.wrap (1 * 2 ^ a1_0.toNat)) = ji15 := shl_small hji15
            have hji15u : (IntKind.i64.wrap (2 ^ min a1_0.toNat 64)) = ji15 := by have h_ := hji15_; rw [Int.one_mul] at h_; exact h_
            have hji15v : a1_0 ≤ 64 → (IntKind.i64.wrap (2 ^ a1_0.toNat)) = ji15 := fun hle_ => by have h_ := hji15z hle_; rw [Int.one_mul] at h_; exact h_
            have hji15y : (wrap64 (1 * 2 ^ min a1_0.toNat 64)) = ji15 := (i64_w _).symm.trans hji15_
            have hji15x : a1_0 ≤ 64 → (wrap64 (1 * 2 ^ a1_0.toNat)) = ji15 := fun h_ => (i64_w _).symm.trans (hji15z h_)
            by_cases c16 : a1_1 ≥ (ji15)
            · rw [if_pos c16] at H
              have c16b0 : decide ((ji15) ≤ a1_1) = true := decide_eq_true c16
              clear c16
              have H' := Aside0.mk H
              clear H
              have hnb17 := NB139_0.out
              have hnc17 := NB0_139.out
              have hcz18_0 : w4.cell? ⟨gb139, 0, none⟩ = some (.int .i64 a1_0) := (blk_cell BK139.out 0).trans rfl
              have hcz18_1 : w4.cell? ⟨gb139, 1, none⟩ = some (.int .i64 a1_1) := (blk_cell BK139.out 1).trans rfl
              have hfz18_0 := blk_frozen BK139.out 0
              have hfz18_1 := blk_frozen BK139.out 1
              go_wp2
              repeat (go_quiet (fail); try go_wp2)
              go_meet
              case rel => exact ⟨_, (true), (by first | rfl | (simp; done) | (simp [*]; done)), H', ⟨by first | omega | exact Nat.le_refl _⟩, ⟨by (with_reducible repeat (first | apply Kd.R_alloc | apply Kd.R_drewN | apply Kd.R_drew)); exact HOs0_0.out⟩, ⟨by (with_reducible repeat (first | refine blk_drewN ?_ _ | refine blk_drew ?_ | refine blk_alloc ?_ _)); exact BK0.out⟩, ⟨by (with_reducible repeat (first | refine blk_drewN ?_ _ | refine blk_drew ?_ | refine blk_alloc ?_ _)); exact BK139.out⟩, ⟨by repeat (first | (with_reducible first | exact HK.out | apply Kept.alloc | apply Kept.drewN | apply Kept.drew | refine Kept.setCell ?_ (.inl HPG0.out) _ | refine Kept.setCell ?_ (.inr GW139.out) _) | exact HK.out)⟩, ⟨by repeat (first | (with_reducible first | exact HB.out | apply below_alloc | apply pw_below_drewN | apply below_drew1 | refine below_set ?_ GE0.out | refine below_set ?_ GE139.out) | exact HB.out)⟩⟩
            · rw [if_neg c16] at H
              have c16b0 : decide ((ji15) ≤ a1_1) = false := decide_eq_false c16
              clear c16
              have H' := Aside0.mk H
              clear H
              have hnb19 := NB139_0.out
              have hnc19 := NB0_139.out
              have hcz20_0 : w4.cell? ⟨gb139, 0, none⟩ = some (.int .i64 a1_0) := (blk_cell BK139.out 0).trans rfl
              have hcz20_1 : w4.cell? ⟨gb139, 1, none⟩ = some (.int .i64 a1_1) := (blk_cell BK139.out 1).trans rfl
              have hfz20_0 := blk_frozen BK139.out 0
              have hfz20_1 := blk_frozen BK139.out 1
              have hcz21_0 : w4.cell? ⟨g, 0, none⟩ = some (u9500_) := (blk_cell BK0.out 0).trans rfl
              have hcz21_1 : w4.cell? ⟨g, 1, none⟩ = some (.int .i64 s0_1) := (blk_cell BK0.out 1).trans rfl
              have hfz21_0 := blk_frozen BK0.out 0
              have hfz21_1 := blk_frozen BK0.out 1
              go_wp2
              repeat (go_quiet (fail); try go_wp2)
              go_meet
              case rel => exact ⟨_, (decide ((wrap64 (s0_1 + a1_0)) > 65536)), (by first | rfl | (simp; done) | (simp [*]; done)), H', ⟨by first | omega | exact Nat.le_refl _⟩, ⟨by (with_reducible repeat (first | apply Kd.R_alloc | apply Kd.R_drewN | apply Kd.R_drew)); exact HOs0_0.out⟩, ⟨by (with_reducible repeat (first | refine blk_drewN ?_ _ | refine blk_drew ?_ | refine blk_alloc ?_ _)); exact BK0.out⟩, ⟨by (with_reducible repeat (first | refine blk_drewN ?_ _ | refine blk_drew ?_ | refine blk_alloc ?_ _)); exact BK139.out⟩, ⟨by repeat (first | (with_reducible first | exact HK.out | apply Kept.alloc | apply Kept.drewN | apply Kept.drew | refine Kept.setCell ?_ (.inl HPG0.out) _ | refine Kept.setCell ?_ (.inr GW139.out) _) | exact HK.out)⟩, ⟨by repeat (first | (with_reducible first | exact HB.out | apply below_alloc | apply pw_below_drewN | apply below_drew1 | refine below_set ?_ GE0.out | refine below_set ?_ GE139.out) | exact HB.out)⟩⟩
          · rw [if_neg c14] at H
            exact absurd H (by simp)
  case rest =>
    clear HC3
    try clear c1
    try clear p2
    try clear c3
    try clear c5
    try clear c5b0
    try clear c6
    try clear p6
    try clear c8
    try clear c8b0
    try clear c9
    try clear c11
    try clear c11b0
    try clear c12
    try clear c14
    try clear c14b0
    try clear c14b1
    try clear c16
    try clear c16b0
    try clear c17
    try clear c19
    try clear hcz10_0
    try clear hcz10_1
    try clear hcz13_0
    try clear hcz13_1
    try clear hcz18_0
    try clear hcz18_1
    try clear hcz20_0
    try clear hcz20_1
    try clear hcz21_0
    try clear hcz21_1
    try clear hcz7_0
    try clear hcz7_1
    try clear hfz10_0
    try clear hfz10_1
    try clear hfz13_0
    try clear hfz13_1
    try clear hfz18_0
    try clear hfz18_1
    try clear hfz20_0
    try clear hfz20_1
    try clear hfz21_0
    try clear hfz21_1
    try clear hfz7_0
    try clear hfz7_1
    obtain ⟨kq, x36_2, rfl, HA, HJ2, HO_1000, BK0, BK139, HK, HB⟩ := hcut
    cases kq with
    | zero => exact absurd HA.out (by simp [portageref1_Writer_Code.j0])
    | succ kj2 =>
      have H := HA.out
      clear HA
      simp only [portageref1_Writer_Code.j0] at H
      by_cases c22 : x36_2 = true
      · subst c22
        have H1 : (some (100, s0_0, s0_1)) = some (r1, r2, r3) := by rw [if_pos rfl] at H; exact H
        clear H
        have H := H1
        clear H1
        simp only [Option.some.injEq, Prod.mk.injEq] at H
        obtain ⟨rfl, rfl, rfl⟩ := H
        go_wp2
        repeat (go_quiet (fail); try go_wp2)
        go_ret
        exact ⟨by first | rfl | (simp [errW_none, errW_some] <;> rfl) | (simp [*, errW_none, errW_some] <;> rfl), (show IsO56 w0 _ (fun k_ => (P0_ k_ ∨ w.heap.size ≤ k_)) g s0_0 s0_1 from ⟨_, by (with_reducible repeat (first | refine blk_drewN ?_ _ | refine blk_drew ?_ | refine blk_alloc ?_ _)); exact BK0.out, GE0.out, .inl HPG0.out, (Kd.R_types (g := g) (t := 56) (cells := #[_, _]) (by (with_reducible repeat (first | apply Kd.R_alloc | apply Kd.R_drewN | apply Kd.R_drew)); exact HO_1000.out) (by (with_reducible repeat (first | refine blk_drewN ?_ _ | refine blk_drew ?_ | refine blk_alloc ?_ _)); exact BK0.out) (by decide))⟩), by repeat (first | (with_reducible first | exact HB.out | apply below_alloc | apply pw_below_drewN | apply below_drew1 | refine below_set ?_ GE0.out | refine below_set ?_ GE139.out) | exact HB.out), by repeat (first | (with_reducible first | exact HK.out | apply Kept.alloc | apply Kept.drewN | apply Kept.drew | refine Kept.setCell ?_ (.inl HPG0.out) _ | refine Kept.setCell ?_ (.inr GW139.out) _) | exact HK.out)⟩
      · replace c22 := Bool.eq_false_iff.mpr c22
        subst c22
        have H1 : (portageref1_Writer_Code.l0 kj2 (wrap64 (a1_0 - 1)) s0_0 s0_1 a1_0 a1_1) = some (r1, r2, r3) := by rw [if_neg (show ¬ (false = true) by decide)] at H; exact H
        clear H
        have H := H1
        clear H1
        have H' := Aside0.mk H
        clear H
        have hnb23 := NB139_0.out
        have hnc23 := NB0_139.out
        have hcz24_0 : wc.cell? ⟨gb139, 0, none⟩ = some (.int .i64 a1_0) := (blk_cell BK139.out 0).trans rfl
        have hcz24_1 : wc.cell? ⟨gb139, 1, none⟩ = some (.int .i64 a1_1) := (blk_cell BK139.out 1).trans rfl
        have hfz24_0 := blk_frozen BK139.out 0
        have hfz24_1 := blk_frozen BK139.out 1
        go_wp2
        repeat (go_quiet (fail); try go_wp2)
        go_loopg [5] kj2 (fun kq v5 w' => ∃ (x5_2 : Int) (x1000_2 : List Int) (x1001_2 : Int) (u1000 : Value), v5 = .int .i64 x5_2 ∧ Aside0 (portageref1_Writer_Code.l0 kq x5_2 x1000_2 x1001_2 a1_0 a1_1 = some (r1, r2, r3)) ∧ Aside0 (kq ≤ kj2) ∧ Aside0 (Kd.R (Kd.int .u8) 5 w' w0.heap.size (fun k_ => (P0_ k_ ∨ w.heap.size ≤ k_)) u1000 x1000_2) ∧ Aside0 (w'.heap[g]? = some (.cells #[u1000, .int .i64 x1001_2] 56 (0, 0))) ∧ Aside0 (w'.heap[gb139]? = some (.cells #[.int .i64 a1_0, .int .i64 a1_1] 43 (0, 0))) ∧ Aside0 (Kept w w' (fun k_ => P0_ k_)) ∧ Aside0 (Below w0.heap.size w0 w'))
        case atStart => exact ⟨(wrap64 (a1_0 - 1)), (s0_0), (s0_1), (u9500_), (by first | rfl | (simp; done) | (simp [*]; done)), H', ⟨Nat.le_refl _⟩, ⟨by (with_reducible repeat (first | apply Kd.R_alloc | apply Kd.R_drewN | apply Kd.R_drew)); exact HO_1000.out⟩, ⟨by (with_reducible repeat (first | refine blk_drewN ?_ _ | refine blk_drew ?_ | refine blk_alloc ?_ _)); exact BK0.out⟩, ⟨by (with_reducible repeat (first | refine blk_drewN ?_ _ | refine blk_drew ?_ | refine blk_alloc ?_ _)); exact BK139.out⟩, ⟨by repeat (first | (with_reducible first | exact HK.out | apply Kept.alloc | apply Kept.drewN | apply Kept.drew | refine Kept.setCell ?_ (.inl HPG0.out) _ | refine Kept.setCell ?_ (.inr GW139.out) _) | exact HK.out)⟩, ⟨by repeat (first | (with_reducible first | exact HB.out | apply below_alloc | apply pw_below_drewN | apply below_drew1 | refine below_set ?_ GE0.out | refine below_set ?_ GE139.out) | exact HB.out)⟩⟩
        case round =>
          clear H'
          try clear c1
          try clear c2
          try clear p2
          try clear c3
          try clear c5
          try clear c5b0
          try clear c6
          try clear p6
          try clear c8
          try clear c8b0
          try clear c9
          try clear c11
          try clear c11b0
          try clear c12
          try clear c14
          try clear c14b0
          try clear c14b1
          try clear c16
          try clear c16b0
          try clear c17
          try clear c19
          try clear c22
          try clear c23
          try clear hcz10_0
          try clear hcz10_1
          try clear hcz13_0
          try clear hcz13_1
          try clear hcz18_0
          try clear hcz18_1
          try clear hcz20_0
          try clear hcz20_1
          try clear hcz21_0
          try clear hcz21_1
          try clear hcz24_0
          try clear hcz24_1
          try clear hcz7_0
          try clear hcz7_1
          try clear hfz10_0
          try clear hfz10_1
          try clear hfz13_0
          try clear hfz13_1
          try clear hfz18_0
          try clear hfz18_1
          try clear hfz20_0
          try clear hfz20_1
          try clear hfz21_0
          try clear hfz21_1
          try clear hfz24_0
          try clear hfz24_1
          try clear hfz7_0
          try clear hfz7_1
          try clear p2
          try clear p6
          obtain ⟨x5_2, x1000_2, x1001_2, u1000, rfl, HA, HK2, HO_1000, BK0, BK139, HK, HB⟩ := hrel
          cases gk with
          | zero => exact absurd HA.out (by simp [portageref1_Writer_Code.l0])
          | succ k2 =>
            have H := HA.out
            clear HA
            simp only [portageref1_Writer_Code.l0] at H
            by_cases c25 : x5_2 ≥ 0
            · rw [if_pos c25] at H
              have c25b0 : decide (0 ≤ x5_2) = true := decide_eq_true c25
              clear c25
              by_cases c26 : 0 ≤ x5_2
              · rw [if_pos c26] at H
                have c26b0 := eq_true c26
                have c26b1 : decide (0 ≤ x5_2) = true := decide_eq_true c26
                clear c26
                obtain ⟨ji27, hji27⟩ : ∃ j_ : Int, (shr .i64 a1_1 x5_2) = j_ := ⟨_, rfl⟩
                replace H : ((portageref1_Writer_one.f x1000_2 x1001_2 (Go.bits .and .i64 (ji27) 1)).bind fun bt140 => (portageref1_Writer_Code.l0 k2 (wrap64 (x5_2 - 1)) bt140.1 bt140.2 a1_0 a1_1)) = some (r1, r2, r3) := by first | (rw [hji27] at H; exact H) | (simp only [hji27] at H ⊢; exact H)
                have hji27_ : (a1_1 / 2 ^ min x5_2.toNat 64) = ji27 := hji27
                have hji27z : x5_2 ≤ 64 → (a1_1 / 2 ^ x5_2.toNat) = ji27 := shr_small hji27
                replace H := Option.bind_eq_some_iff.mp H
                obtain ⟨⟨t140, t143⟩, A280, H⟩ := H
                replace H : (portageref1_Writer_Code.l0 k2 (wrap64 (x5_2 - 1)) t140 t143 a1_0 a1_1) = some (r1, r2, r3) := H
                have A28 := Aside0.mk A280
                clear A280
                have H' := Aside0.mk H
                clear H
                have hnb29 := NB139_0.out
                have hnc29 := NB0_139.out
                have hcz30_0 : wr.cell? ⟨gb139, 0, none⟩ = some (.int .i64 a1_0) := (blk_cell BK139.out 0).trans rfl
                have hcz30_1 : wr.cell? ⟨gb139, 1, none⟩ = some (.int .i64 a1_1) := (blk_cell BK139.out 1).trans rfl
                have hfz30_0 := blk_frozen BK139.out 0
                have hfz30_1 := blk_frozen BK139.out 1
                go_wp2_with (first | (go_at_call 77; (with_reducible refine (portageref1_Writer_one.calls (fun k_ => some k_ = (u1000 : Value).ownBlock ∨ k_ = g) g x1000_2 x1001_2 (Go.bits .and .i64 (ji27) 1) t140 t143 w0 _ ?side1 ?side2 A28.out).mono ?_); (case side1 => repeat (first | (with_reducible first | exact HB.out | apply below_alloc | apply pw_below_drewN | apply below_drew1 | refine below_set ?_ GE0.out | refine below_set ?_ GE139.out) | exact HB.out)); (case side2 => exact ⟨_, (by (with_reducible repeat (first | refine blk_drewN ?_ _ | refine blk_drew ?_ | refine blk_alloc ?_ _)); exact BK0.out), GE0.out, .inr rfl, (Kd.R_mono (Kd.R_tight2 rfl (Kd.R_types HO_1000.out (by (with_reducible repeat (first | refine blk_drewN ?_ _ | refine blk_drew ?_ | refine blk_alloc ?_ _)); exact BK0.out) (by decide))) (fun k_ hk => ⟨.inl hk.1, hk.2.2⟩))⟩); rintro e w31 ⟨rfl, ⟨v141, hbx_, _, _, hox_⟩, hb, hkp⟩; have ho0 := Kd.R_mono (ok' := fun k_ => some k_ = (u1000 : Value).ownBlock ∨ wr.heap.size ≤ k_) hox_ (fun k_ h_ => Or.elim h_.1 (fun h1_ => Or.elim h1_ Or.inl (fun e_ => absurd e_ h_.2)) Or.inr); have n0_ := Aside0.mk (hbx_); have n1_ := Aside0.mk (blk_kept (by (with_reducible repeat (first | refine blk_drewN ?_ _ | refine blk_drew ?_ | refine blk_alloc ?_ _)); exact BK139.out) hkp (fun hs_ => Or.elim hs_ (fun hs_ => (fun e_ => (Kd.R_ne HO_1000.out BK139.out (by decide)) e_) hs_) (fun e_ => NB139_0.out e_))); have n2_ := Aside0.mk (Kd.R_mono (ok' := fun k_ => (P0_ k_ ∨ w.heap.size ≤ k_)) ho0 (fun k_ hk_ => Or.elim hk_ (fun hs_ => (HO_1000.out.1 k_ (hs_).symm)) (fun hn_ => (.inr (Nat.le_trans (by first | exact HK.out.1 | exact (show Kept w _ (fun k_ => P0_ k_) from by repeat (first | (with_reducible first | exact HK.out | apply Kept.alloc | apply Kept.drewN | apply Kept.drew | refine Kept.setCell ?_ (.inl HPG0.out) _ | refine Kept.setCell ?_ (.inr GW139.out) _) | exact HK.out)).1) hn_))))); have n3_ := Aside0.mk (Kept.then_ (S := (fun k_ => P0_ k_)) (by repeat (first | (with_reducible first | exact HK.out | apply Kept.alloc | apply Kept.drewN | apply Kept.drew | refine Kept.setCell ?_ (.inl HPG0.out) _ | refine Kept.setCell ?_ (.inr GW139.out) _) | exact HK.out)) hkp (fun k_ hs_ => Or.elim hs_ (fun hs_ => (fun e_ => (HO_1000.out.1 k_ e_.symm)) hs_) (fun e_ => (by rw [e_]; exact .inl HPG0.out)))); have n4_ := Aside0.mk (hb); clear BK0; clear BK139; clear HK; clear HB; clear HO_1000; have BK0 := n0_; have BK139 := n1_; have HO142 := n2_; have HK := n3_; have HB := n4_; clear n0_ n1_ n2_ n3_ n4_; (try clear hb); (try clear hkp); (try clear hbx_); (try clear hox_); (try clear ho0)))
                repeat (go_quiet (first | (go_at_call 77; (with_reducible refine (portageref1_Writer_one.calls (fun k_ => some k_ = (u1000 : Value).ownBlock ∨ k_ = g) g x1000_2 x1001_2 (Go.bits .and .i64 (ji27) 1) t140 t143 w0 _ ?side1 ?side2 A28.out).mono ?_); (case side1 => repeat (first | (with_reducible first | exact HB.out | apply below_alloc | apply pw_below_drewN | apply below_drew1 | refine below_set ?_ GE0.out | refine below_set ?_ GE139.out) | exact HB.out)); (case side2 => exact ⟨_, (by (with_reducible repeat (first | refine blk_drewN ?_ _ | refine blk_drew ?_ | refine blk_alloc ?_ _)); exact BK0.out), GE0.out, .inr rfl, (Kd.R_mono (Kd.R_tight2 rfl (Kd.R_types HO_1000.out (by (with_reducible repeat (first | refine blk_drewN ?_ _ | refine blk_drew ?_ | refine blk_alloc ?_ _)); exact BK0.out) (by decide))) (fun k_ hk => ⟨.inl hk.1, hk.2.2⟩))⟩); rintro e w31 ⟨rfl, ⟨v141, hbx_, _, _, hox_⟩, hb, hkp⟩; have ho0 := Kd.R_mono (ok' := fun k_ => some k_ = (u1000 : Value).ownBlock ∨ wr.heap.size ≤ k_) hox_ (fun k_ h_ => Or.elim h_.1 (fun h1_ => Or.elim h1_ Or.inl (fun e_ => absurd e_ h_.2)) Or.inr); have n0_ := Aside0.mk (hbx_); have n1_ := Aside0.mk (blk_kept (by (with_reducible repeat (first | refine blk_drewN ?_ _ | refine blk_drew ?_ | refine blk_alloc ?_ _)); exact BK139.out) hkp (fun hs_ => Or.elim hs_ (fun hs_ => (fun e_ => (Kd.R_ne HO_1000.out BK139.out (by decide)) e_) hs_) (fun e_ => NB139_0.out e_))); have n2_ := Aside0.mk (Kd.R_mono (ok' := fun k_ => (P0_ k_ ∨ w.heap.size ≤ k_)) ho0 (fun k_ hk_ => Or.elim hk_ (fun hs_ => (HO_1000.out.1 k_ (hs_).symm)) (fun hn_ => (.inr (Nat.le_trans (by first | exact HK.out.1 | exact (show Kept w _ (fun k_ => P0_ k_) from by repeat (first | (with_reducible first | exact HK.out | apply Kept.alloc | apply Kept.drewN | apply Kept.drew | refine Kept.setCell ?_ (.inl HPG0.out) _ | refine Kept.setCell ?_ (.inr GW139.out) _) | exact HK.out)).1) hn_))))); have n3_ := Aside0.mk (Kept.then_ (S := (fun k_ => P0_ k_)) (by repeat (first | (with_reducible first | exact HK.out | apply Kept.alloc | apply Kept.drewN | apply Kept.drew | refine Kept.setCell ?_ (.inl HPG0.out) _ | refine Kept.setCell ?_ (.inr GW139.out) _) | exact HK.out)) hkp (fun k_ hs_ => Or.elim hs_ (fun hs_ => (fun e_ => (HO_1000.out.1 k_ e_.symm)) hs_) (fun e_ => (by rw [e_]; exact .inl HPG0.out)))); have n4_ := Aside0.mk (hb); clear BK0; clear BK139; clear HK; clear HB; clear HO_1000; have BK0 := n0_; have BK139 := n1_; have HO142 := n2_; have HK := n3_; have HB := n4_; clear n0_ n1_ n2_ n3_ n4_; (try clear hb); (try clear hkp); (try clear hbx_); (try clear hox_); (try clear ho0))); try go_wp2_with (first | (go_at_call 77; (with_reducible refine (portageref1_Writer_one.calls (fun k_ => some k_ = (u1000 : Value).ownBlock ∨ k_ = g) g x1000_2 x1001_2 (Go.bits .and .i64 (ji27) 1) t140 t143 w0 _ ?side1 ?side2 A28.out).mono ?_); (case side1 => repeat (first | (with_reducible first | exact HB.out | apply below_alloc | apply pw_below_drewN | apply below_drew1 | refine below_set ?_ GE0.out | refine below_set ?_ GE139.out) | exact HB.out)); (case side2 => exact ⟨_, (by (with_reducible repeat (first | refine blk_drewN ?_ _ | refine blk_drew ?_ | refine blk_alloc ?_ _)); exact BK0.out), GE0.out, .inr rfl, (Kd.R_mono (Kd.R_tight2 rfl (Kd.R_types HO_1000.out (by (with_reducible repeat (first | refine blk_drewN ?_ _ | refine blk_drew ?_ | refine blk_alloc ?_ _)); exact BK0.out) (by decide))) (fun k_ hk => ⟨.inl hk.1, hk.2.2⟩))⟩); rintro e w31 ⟨rfl, ⟨v141, hbx_, _, _, hox_⟩, hb, hkp⟩; have ho0 := Kd.R_mono (ok' := fun k_ => some k_ = (u1000 : Value).ownBlock ∨ wr.heap.size ≤ k_) hox_ (fun k_ h_ => Or.elim h_.1 (fun h1_ => Or.elim h1_ Or.inl (fun e_ => absurd e_ h_.2)) Or.inr); have n0_ := Aside0.mk (hbx_); have n1_ := Aside0.mk (blk_kept (by (with_reducible repeat (first | refine blk_drewN ?_ _ | refine blk_drew ?_ | refine blk_alloc ?_ _)); exact BK139.out) hkp (fun hs_ => Or.elim hs_ (fun hs_ => (fun e_ => (Kd.R_ne HO_1000.out BK139.out (by decide)) e_) hs_) (fun e_ => NB139_0.out e_))); have n2_ := Aside0.mk (Kd.R_mono (ok' := fun k_ => (P0_ k_ ∨ w.heap.size ≤ k_)) ho0 (fun k_ hk_ => Or.elim hk_ (fun hs_ => (HO_1000.out.1 k_ (hs_).symm)) (fun hn_ => (.inr (Nat.le_trans (by first | exact HK.out.1 | exact (show Kept w _ (fun k_ => P0_ k_) from by repeat (first | (with_reducible first | exact HK.out | apply Kept.alloc | apply Kept.drewN | apply Kept.drew | refine Kept.setCell ?_ (.inl HPG0.out) _ | refine Kept.setCell ?_ (.inr GW139.out) _) | exact HK.out)).1) hn_))))); have n3_ := Aside0.mk (Kept.then_ (S := (fun k_ => P0_ k_)) (by repeat (first | (with_reducible first | exact HK.out | apply Kept.alloc | apply Kept.drewN | apply Kept.drew | refine Kept.setCell ?_ (.inl HPG0.out) _ | refine Kept.setCell ?_ (.inr GW139.out) _) | exact HK.out)) hkp (fun k_ hs_ => Or.elim hs_ (fun hs_ => (fun e_ => (HO_1000.out.1 k_ e_.symm)) hs_) (fun e_ => (by rw [e_]; exact .inl HPG0.out)))); have n4_ := Aside0.mk (hb); clear BK0; clear BK139; clear HK; clear HB; clear HO_1000; have BK0 := n0_; have BK139 := n1_; have HO142 := n2_; have HK := n3_; have HB := n4_; clear n0_ n1_ n2_ n3_ n4_; (try clear hb); (try clear hkp); (try clear hbx_); (try clear hox_); (try clear ho0))))
                go_roundg k2
                case measure => have := HJ2.out; have := HK2.out; omega
                case rel => exact ⟨(wrap64 (x5_2 - 1)), (t140), (t143), (v141), (by first | rfl | (simp; done) | (simp [*]; done)), H', ⟨by have := HJ2.out; have := HK2.out; omega⟩, ⟨by (with_reducible repeat (first | apply Kd.R_alloc | apply Kd.R_drewN | apply Kd.R_drew)); exact HO142.out⟩, ⟨by (with_reducible repeat (first | refine blk_drewN ?_ _ | refine blk_drew ?_ | refine blk_alloc ?_ _)); exact BK0.out⟩, ⟨by (with_reducible repeat (first | refine blk_drewN ?_ _ | refine blk_drew ?_ | refine blk_alloc ?_ _)); exact BK139.out⟩, ⟨by repeat (first | (with_reducible first | exact HK.out | apply Kept.alloc | apply Kept.drewN | apply Kept.drew | refine Kept.setCell ?_ (.inl HPG0.out) _ | refine Kept.setCell ?_ (.inr GW139.out) _) | exact HK.out)⟩, ⟨by repeat (first | (with_reducible first | exact HB.out | apply below_alloc | apply pw_below_drewN | apply below_drew1 | refine below_set ?_ GE0.out | refine below_set ?_ GE139.out) | exact HB.out)⟩⟩
              · rw [if_neg c26] at H
                exact absurd H (by simp)
            · rw [if_neg c25] at H
              have c25b0 : decide (0 ≤ x5_2) = false := decide_eq_false c25
              clear c25
              simp only [Option.some.injEq, Prod.mk.injEq] at H
              obtain ⟨rfl, rfl, rfl⟩ := H
              go_wp2
              repeat (go_quiet (fail); try go_wp2)
              go_ret
              exact ⟨by first | rfl | (simp [errW_none, errW_some] <;> rfl) | (simp [*, errW_none, errW_some] <;> rfl), (show IsO56 w0 _ (fun k_ => (P0_ k_ ∨ w.heap.size ≤ k_)) g x1000_2 x1001_2 from ⟨_, by (with_reducible repeat (first | refine blk_drewN ?_ _ | refine blk_drew ?_ | refine blk_alloc ?_ _)); exact BK0.out, GE0.out, .inl HPG0.out, (Kd.R_types (g := g) (t := 56) (cells := #[_, _]) (by (with_reducible repeat (first | apply Kd.R_alloc | apply Kd.R_drewN | apply Kd.R_drew)); exact HO_1000.out) (by (with_reducible repeat (first | refine blk_drewN ?_ _ | refine blk_drew ?_ | refine blk_alloc ?_ _)); exact BK0.out) (by decide))⟩), by repeat (first | (with_reducible first | exact HB.out | apply below_alloc | apply pw_below_drewN | apply below_drew1 | refine below_set ?_ GE0.out | refine below_set ?_ GE139.out) | exact HB.out), by repeat (first | (with_reducible first | exact HK.out | apply Kept.alloc | apply Kept.drewN | apply Kept.drew | refine Kept.setCell ?_ (.inl HPG0.out) _ | refine Kept.setCell ?_ (.inr GW139.out) _) | exact HK.out)⟩

/-! ### bits_Writer_Align: function 40 -/
def bits_Writer_Align.f (s0_0 : List Int) (s0_1 : Int) : Option (Int × List Int × Int) := some (0, s0_0, wrap64 (8 * (s0_0.length : Int)))
set_option maxHeartbeats 8000000 in
set_option maxRecDepth 100000 in
theorem bits_Writer_Align.calls (P0_ : Nat → Prop) (g : Nat) (s0_0 : List Int) (s0_1 : Int) (r1 : Int) (r2 : List Int) (r3 : Int) (w0 w : World) (hB : Below w0.heap.size w0 w) (hO : IsO103 w0 w P0_ g s0_0 s0_1) (h : bits_Writer_Align.f s0_0 s0_1 = some (r1, r2, r3)) :
    Calls Try.prog 40 #[.pointer (some ⟨g, 0, none⟩)] w fun e w' => e = .returned (.int .i64 r1) ∧ IsO103 w0 w' (fun k_ => (P0_ k_ ∨ w.heap.size ≤ k_)) g r2 r3 ∧ Below w0.heap.size w0 w' ∧ Kept w w' (fun k_ => P0_ k_) := by
  obtain ⟨u9500_, hbk_, hge_, hpg_, ho_⟩ := hO
  have BK0 := Aside0.mk hbk_
  have GE0 := Aside0.mk hge_
  have HPG0 := Aside0.mk hpg_
  have HOs0_0 := Aside0.mk (show Kd.R (Kd.int .u8) 5 w w0.heap.size (fun k_ => (P0_ k_ ∨ w.heap.size ≤ k_)) u9500_ s0_0 from Kd.R_mono ho_ (fun k_ hk => .inl hk.1))
  clear hbk_ hge_ hpg_ ho_
  have HK := Aside0.mk (Kept.refl w (fun k_ => P0_ k_))
  have HW0 := Aside0.mk hB.size
  have HB := Aside0.mk hB
  clear hB
  have H : (some (0, s0_0, wrap64 (8 * (s0_0.length : Int)))) = some (r1, r2, r3) := h
  clear h
  simp only [Option.some.injEq, Prod.mk.injEq] at H
  obtain ⟨rfl, rfl, rfl⟩ := H
  have hcz2_0 : w.cell? ⟨g, 0, none⟩ = some (u9500_) := (blk_cell BK0.out 0).trans rfl
  have hcz2_1 : w.cell? ⟨g, 1, none⟩ = some (.int .i64 s0_1) := (blk_cell BK0.out 1).trans rfl
  have hfz2_0 := blk_frozen BK0.out 0
  have hfz2_1 := blk_frozen BK0.out 1
  obtain ⟨Ao3, co3, eo3⟩ := Kd.R_slice HOs0_0.out
  subst eo3
  go_enter Try.func40, Try.ntmps40
  go_wp2
  go_ret
  exact ⟨by first | rfl | (simp [errW_none, errW_some] <;> rfl) | (simp [*, errW_none, errW_some] <;> rfl), (show IsO103 w0 _ (fun k_ => (P0_ k_ ∨ w.heap.size ≤ k_)) g s0_0 (wrap64 (8 * (s0_0.length : Int))) from ⟨_, by (with_reducible repeat (first | refine blk_drewN ?_ _ | refine blk_drew ?_ | refine blk_alloc ?_ _)); refine blk_put (cs := #[.slice Ao3 s0_0.length co3, .int .i64 s0_1]) ?_ 1 _ rfl; (with_reducible repeat (first | refine blk_drewN ?_ _ | refine blk_drew ?_ | refine blk_alloc ?_ _)); exact BK0.out, GE0.out, .inl HPG0.out, (Kd.R_types (g := g) (t := 103) (cells := #[_, _]) (by (with_reducible repeat (first | apply Kd.R_alloc | apply Kd.R_drewN | apply Kd.R_drew)); exact Kd.R_mono (Kd.R_far (p := ⟨g, 1, none⟩) (Kd.R_types HOs0_0.out BK0.out (by decide)) (fun _ hk => hk.2) (.int .i64 (wrap64 (8 * (s0_0.length : Int))))) (fun _ hk => hk.1)) (by (with_reducible repeat (first | refine blk_drewN ?_ _ | refine blk_drew ?_ | refine blk_alloc ?_ _)); refine blk_put (cs := #[.slice Ao3 s0_0.length co3, .int .i64 s0_1]) ?_ 1 _ rfl; (with_reducible repeat (first | refine blk_drewN ?_ _ | refine blk_drew ?_ | refine blk_alloc ?_ _)); exact BK0.out) (by decide))⟩), by repeat (first | (with_reducible first | exact HB.out | apply below_alloc | apply pw_below_drewN | apply below_drew1 | refine below_set ?_ GE0.out) | exact HB.out), by repeat (first | (with_reducible first | exact HK.out | apply Kept.alloc | apply Kept.drewN | apply Kept.drew | refine Kept.setCell ?_ (.inl HPG0.out) _) | exact HK.out)⟩

end Go.Proofs.Ytbifignggnfodaa.BW
