-- Written by a program of this session out of the translation (a changed copy of the kit's printer).
import Derived.Test.YtbifignggnfodaaBW0
namespace Go.Proofs.Ytbifignggnfodaa.BW
open Go.RowKit Go.Proofs.YtbifignggnfodaaW.PrintWords Go.Proofs.YtbifignggnfodaaW.PrintLast Go.Proofs.YtbifignggnfodaaW.PrintMore
attribute [local go_sem] max2_int min2_int max_two min_two max_three min_three max_four min_four   -- for this text's walks alone
set_option linter.unusedVariables false
set_option linter.unusedSimpArgs false

/-! ### portagelaw0_Num: function 29 -/
def portagelaw0_Num.f (a0 : Int) : Option (Int) := some a0
set_option maxHeartbeats 8000000 in
set_option maxRecDepth 100000 in
theorem portagelaw0_Num.calls (a0 : Int) (r : Int) (w : World) (h : portagelaw0_Num.f a0 = some r) :
    Calls Try.prog 29 #[.int .i64 a0] w fun e w' => e = .returned (.int .i64 r) ∧ Drawn0 w w' := by
  have H : (some a0) = some r := h
  clear h
  obtain rfl := Option.some.inj H
  go_enter Try.func29, Try.ntmps29
  go_wp2
  go_ret
  exact ⟨by first | rfl | (simp; done) | (simp [*]; done), by repeat (first | exact Drawn0.refl _ | apply Drawn0.step)⟩

/-- An object of type 103 at block g, with its own row: all within P. -/
def IsO103 (w0 W : World) (P : Nat → Prop) (g : Nat) (f0 : List Int) (f1 : Int) : Prop := ∃ v0_ : Value, W.heap[g]? = some (.cells #[v0_, .int .i64 f1] 103 (0, 0)) ∧ w0.heap.size ≤ g ∧ P g ∧ Kd.R (Kd.int .u8) 5 W w0.heap.size (fun k_ => P k_ ∧ k_ ≠ g) v0_ f0

/-! ### bits_New: function 35 -/
def bits_New.f  : Option (List Int × Int) := some (([] : List Int), 0)
set_option maxHeartbeats 8000000 in
theorem bits_New.calls  (w : World) : Calls Try.prog 35 #[] w fun e w' => ∃ g_ : Nat, e = .returned (.pointer (some ⟨g_, 0, none⟩)) ∧ g_ = w.heap.size ∧ w'.heap[g_]? = some (.cells #[.slice none 0 0, .int .i64 0] 103 (0, 0)) ∧ Below w.heap.size w w' := by
  have hu103 := Try.underlying103
  go_enter Try.func35, Try.ntmps35
  go_wp2_with (first | ((with_reducible refine gate_dst (N := 2) rfl ?_); refine box_event ?hg (N := 2) ?hd (cs := #[.slice none 0 0, .int .i64 0]) (t := 103) ?hr ?_; (case hd => rfl); (case hg => rfl); (case hr => first | (go_simp; done) | (go_simp; rfl)); intro gb_ hg w2 hbox hb; have HG := Aside0.mk hg; have HBX := Aside0.mk hbox; have HB := Aside0.mk hb; clear hg hbox hb))
  go_ret
  exact ⟨_, rfl, HG.out, HBX.out, HB.out⟩

/-! ### bits_Writer_fits: function 75 -/
def bits_Writer_fits.f (s0_0 : List Int) (s0_1 : Int) (a1 : Int) (a2 : Int) (a3 : Int) : Option (Bool × List Int × Int) := if a2 ≥ 0 then (if a2 ≤ a3 then (if a1 ≥ 0 then (if 0 ≤ a2 then (if a1 < (shl .i64 1 a2) then (some (decide ((wrap64 (s0_1 + a2)) ≤ 65536), s0_0, s0_1)) else (some (false, s0_0, s0_1))) else (none)) else (some (false, s0_0, s0_1))) else (some (false, s0_0, s0_1))) else (some (false, s0_0, s0_1))
set_option maxHeartbeats 8000000 in
set_option maxRecDepth 100000 in
theorem bits_Writer_fits.calls (P0_ : Nat → Prop) (g : Nat) (s0_0 : List Int) (s0_1 : Int) (a1 : Int) (a2 : Int) (a3 : Int) (r1 : Bool) (r2 : List Int) (r3 : Int) (w0 w : World) (hB : Below w0.heap.size w0 w) (hO : IsO103 w0 w P0_ g s0_0 s0_1) (h : bits_Writer_fits.f s0_0 s0_1 a1 a2 a3 = some (r1, r2, r3)) :
    Calls Try.prog 75 #[.pointer (some ⟨g, 0, none⟩), .int .i64 a1, .int .i64 a2, .int .i64 a3] w fun e w' => e = .returned (.bool r1) ∧ IsO103 w0 w' (fun k_ => (P0_ k_ ∨ w.heap.size ≤ k_)) g r2 r3 ∧ Below w0.heap.size w0 w' ∧ Kept w w' (fun k_ => P0_ k_) := by
  obtain ⟨u9500_, hbk_, hge_, hpg_, ho_⟩ := hO
  have BK0 := Aside0.mk hbk_
  have GE0 := Aside0.mk hge_
  have HPG0 := Aside0.mk hpg_
  have HOs0_0 := Aside0.mk (show Kd.R (Kd.int .u8) 5 w w0.heap.size (fun k_ => (P0_ k_ ∨ w.heap.size ≤ k_)) u9500_ s0_0 from Kd.R_mono ho_ (fun k_ hk => .inl hk.1))
  clear hbk_ hge_ hpg_ ho_
  have HK := Aside0.mk (Kept.refl w (fun k_ => P0_ k_))
  have HW0 := Aside0.mk hB.size
  have HB := Aside0.mk hB
  clear hB
  have H : (if a2 ≥ 0 then (if a2 ≤ a3 then (if a1 ≥ 0 then (if 0 ≤ a2 then (if a1 < (shl .i64 1 a2) then (some (decide ((wrap64 (s0_1 + a2)) ≤ 65536), s0_0, s0_1)) else (some (false, s0_0, s0_1))) else (none)) else (some (false, s0_0, s0_1))) else (some (false, s0_0, s0_1))) else (some (false, s0_0, s0_1))) = some (r1, r2, r3) := h
  clear h
  by_cases c5 : a2 ≥ 0
  · rw [if_pos c5] at H
    have c5b0 : decide (0 ≤ a2) = true := decide_eq_true c5
    clear c5
    by_cases c6 : a2 ≤ a3
    · rw [if_pos c6] at H
      have c6b0 : decide (a2 ≤ a3) = true := decide_eq_true c6
      clear c6
      by_cases c7 : a1 ≥ 0
      · rw [if_pos c7] at H
        have c7b0 : decide (0 ≤ a1) = true := decide_eq_true c7
        clear c7
        by_cases c8 : 0 ≤ a2
        · rw [if_pos c8] at H
          have c8b0 := eq_true c8
          have c8b1 : decide (0 ≤ a2) = true := decide_eq_true c8
          clear c8
          obtain ⟨ji9, hji9⟩ : ∃ j_ : Int, (shl .i64 1 a2) = j_ := ⟨_, rfl⟩
          replace H : (if a1 < (ji9) then (some (decide ((wrap64 (s0_1 + a2)) ≤ 65536), s0_0, s0_1)) else (some (false, s0_0, s0_1))) = some (r1, r2, r3) := by first | (rw [hji9] at H; exact H) | (simp only [hji9] at H ⊢; exact H)
          have hji9_ : (IntKind.i64.wrap (1 * 2 ^ min a2.toNat 64)) = ji9 := hji9
          have hji9z : a2 ≤ 64 → (IntKind.i64.wrap (1 * 2 ^ a2.toNat)) = ji9 := shl_small hji9
          have hji9u : (IntKind.i64.wrap (2 ^ min a2.toNat 64)) = ji9 := by have h_ := hji9_; rw [Int.one_mul] at h_; exact h_
          have hji9v : a2 ≤ 64 → (IntKind.i64.wrap (2 ^ a2.toNat)) = ji9 := fun hle_ => by have h_ := hji9z hle_; rw [Int.one_mul] at h_; exact h_
          have hji9y : (wrap64 (1 * 2 ^ min a2.toNat 64)) = ji9 := (i64_w _).symm.trans hji9_
          have hji9x : a2 ≤ 64 → (wrap64 (1 * 2 ^ a2.toNat)) = ji9 := fun h_ => (i64_w _).symm.trans (hji9z h_)
          by_cases c10 : a1 < (ji9)
          · rw [if_pos c10] at H
            have c10b0 : decide (a1 < (ji9)) = true := decide_eq_true c10
            clear c10
            simp only [Option.some.injEq, Prod.mk.injEq] at H
            obtain ⟨rfl, rfl, rfl⟩ := H
            have hcz11_0 : w.cell? ⟨g, 0, none⟩ = some (u9500_) := (blk_cell BK0.out 0).trans rfl
            have hcz11_1 : w.cell? ⟨g, 1, none⟩ = some (.int .i64 s0_1) := (blk_cell BK0.out 1).trans rfl
            have hfz11_0 := blk_frozen BK0.out 0
            have hfz11_1 := blk_frozen BK0.out 1
            go_enter Try.func75, Try.ntmps75
            go_wp2
            go_ret
            exact ⟨by first | rfl | (simp [errW_none, errW_some] <;> rfl) | (simp only [← hji9]; first | rfl | (simp [errW_none, errW_some] <;> rfl)) | (simp [*, errW_none, errW_some] <;> rfl), (show IsO103 w0 _ (fun k_ => (P0_ k_ ∨ w.heap.size ≤ k_)) g s0_0 s0_1 from ⟨_, by (with_reducible repeat (first | refine blk_drewN ?_ _ | refine blk_drew ?_ | refine blk_alloc ?_ _)); exact BK0.out, GE0.out, .inl HPG0.out, (Kd.R_types (g := g) (t := 103) (cells := #[_, _]) (by (with_reducible repeat (first | apply Kd.R_alloc | apply Kd.R_drewN | apply Kd.R_drew)); exact HOs0_0.out) (by (with_reducible repeat (first | refine blk_drewN ?_ _ | refine blk_drew ?_ | refine blk_alloc ?_ _)); exact BK0.out) (by decide))⟩), by repeat (first | (with_reducible first | exact HB.out | apply below_alloc | apply pw_below_drewN | apply below_drew1 | refine below_set ?_ GE0.out) | exact HB.out), by repeat (first | (with_reducible first | exact HK.out | apply Kept.alloc | apply Kept.drewN | apply Kept.drew | refine Kept.setCell ?_ (.inl HPG0.out) _) | exact HK.out)⟩
          · rw [if_neg c10] at H
            have c10b0 : decide (a1 < (ji9)) = false := decide_eq_false c10
            clear c10
            simp only [Option.some.injEq, Prod.mk.injEq] at H
            obtain ⟨rfl, rfl, rfl⟩ := H
            go_enter Try.func75, Try.ntmps75
            go_wp2
            go_ret
            exact ⟨by first | rfl | (simp [errW_none, errW_some] <;> rfl) | (simp only [← hji9]; first | rfl | (simp [errW_none, errW_some] <;> rfl)) | (simp [*, errW_none, errW_some] <;> rfl), (show IsO103 w0 _ (fun k_ => (P0_ k_ ∨ w.heap.size ≤ k_)) g s0_0 s0_1 from ⟨_, by (with_reducible repeat (first | refine blk_drewN ?_ _ | refine blk_drew ?_ | refine blk_alloc ?_ _)); exact BK0.out, GE0.out, .inl HPG0.out, (Kd.R_types (g := g) (t := 103) (cells := #[_, _]) (by (with_reducible repeat (first | apply Kd.R_alloc | apply Kd.R_drewN | apply Kd.R_drew)); exact HOs0_0.out) (by (with_reducible repeat (first | refine blk_drewN ?_ _ | refine blk_drew ?_ | refine blk_alloc ?_ _)); exact BK0.out) (by decide))⟩), by repeat (first | (with_reducible first | exact HB.out | apply below_alloc | apply pw_below_drewN | apply below_drew1 | refine below_set ?_ GE0.out) | exact HB.out), by repeat (first | (with_reducible first | exact HK.out | apply Kept.alloc | apply Kept.drewN | apply Kept.drew | refine Kept.setCell ?_ (.inl HPG0.out) _) | exact HK.out)⟩
        · rw [if_neg c8] at H
          exact absurd H (by simp)
      · rw [if_neg c7] at H
        have c7b0 : decide (0 ≤ a1) = false := decide_eq_false c7
        clear c7
        simp only [Option.some.injEq, Prod.mk.injEq] at H
        obtain ⟨rfl, rfl, rfl⟩ := H
        go_enter Try.func75, Try.ntmps75
        go_wp2
        go_ret
        exact ⟨by first | rfl | (simp [errW_none, errW_some] <;> rfl) | (simp [*, errW_none, errW_some] <;> rfl), (show IsO103 w0 _ (fun k_ => (P0_ k_ ∨ w.heap.size ≤ k_)) g s0_0 s0_1 from ⟨_, by (with_reducible repeat (first | refine blk_drewN ?_ _ | refine blk_drew ?_ | refine blk_alloc ?_ _)); exact BK0.out, GE0.out, .inl HPG0.out, (Kd.R_types (g := g) (t := 103) (cells := #[_, _]) (by (with_reducible repeat (first | apply Kd.R_alloc | apply Kd.R_drewN | apply Kd.R_drew)); exact HOs0_0.out) (by (with_reducible repeat (first | refine blk_drewN ?_ _ | refine blk_drew ?_ | refine blk_alloc ?_ _)); exact BK0.out) (by decide))⟩), by repeat (first | (with_reducible first | exact HB.out | apply below_alloc | apply pw_below_drewN | apply below_drew1 | refine below_set ?_ GE0.out) | exact HB.out), by repeat (first | (with_reducible first | exact HK.out | apply Kept.alloc | apply Kept.drewN | apply Kept.drew | refine Kept.setCell ?_ (.inl HPG0.out) _) | exact HK.out)⟩
    · rw [if_neg c6] at H
      have c6b0 : decide (a2 ≤ a3) = false := decide_eq_false c6
      clear c6
      simp only [Option.some.injEq, Prod.mk.injEq] at H
      obtain ⟨rfl, rfl, rfl⟩ := H
      go_enter Try.func75, Try.ntmps75
      go_wp2
      go_ret
      exact ⟨by first | rfl | (simp [errW_none, errW_some] <;> rfl) | (simp [*, errW_none, errW_some] <;> rfl), (show IsO103 w0 _ (fun k_ => (P0_ k_ ∨ w.heap.size ≤ k_)) g s0_0 s0_1 from ⟨_, by (with_reducible repeat (first | refine blk_drewN ?_ _ | refine blk_drew ?_ | refine blk_alloc ?_ _)); exact BK0.out, GE0.out, .inl HPG0.out, (Kd.R_types (g := g) (t := 103) (cells := #[_, _]) (by (with_reducible repeat (first | apply Kd.R_alloc | apply Kd.R_drewN | apply Kd.R_drew)); exact HOs0_0.out) (by (with_reducible repeat (first | refine blk_drewN ?_ _ | refine blk_drew ?_ | refine blk_alloc ?_ _)); exact BK0.out) (by decide))⟩), by repeat (first | (with_reducible first | exact HB.out | apply below_alloc | apply pw_below_drewN | apply below_drew1 | refine below_set ?_ GE0.out) | exact HB.out), by repeat (first | (with_reducible first | exact HK.out | apply Kept.alloc | apply Kept.drewN | apply Kept.drew | refine Kept.setCell ?_ (.inl HPG0.out) _) | exact HK.out)⟩
  · rw [if_neg c5] at H
    have c5b0 : decide (0 ≤ a2) = false := decide_eq_false c5
    clear c5
    simp only [Option.some.injEq, Prod.mk.injEq] at H
    obtain ⟨rfl, rfl, rfl⟩ := H
    go_enter Try.func75, Try.ntmps75
    go_wp2
    go_ret
    exact ⟨by first | rfl | (simp [errW_none, errW_some] <;> rfl) | (simp [*, errW_none, errW_some] <;> rfl), (show IsO103 w0 _ (fun k_ => (P0_ k_ ∨ w.heap.size ≤ k_)) g s0_0 s0_1 from ⟨_, by (with_reducible repeat (first | refine blk_drewN ?_ _ | refine blk_drew ?_ | refine blk_alloc ?_ _)); exact BK0.out, GE0.out, .inl HPG0.out, (Kd.R_types (g := g) (t := 103) (cells := #[_, _]) (by (with_reducible repeat (first | apply Kd.R_alloc | apply Kd.R_drewN | apply Kd.R_drew)); exact HOs0_0.out) (by (with_reducible repeat (first | refine blk_drewN ?_ _ | refine blk_drew ?_ | refine blk_alloc ?_ _)); exact BK0.out) (by decide))⟩), by repeat (first | (with_reducible first | exact HB.out | apply below_alloc | apply pw_below_drewN | apply below_drew1 | refine below_set ?_ GE0.out) | exact HB.out), by repeat (first | (with_reducible first | exact HK.out | apply Kept.alloc | apply Kept.drewN | apply Kept.drew | refine Kept.setCell ?_ (.inl HPG0.out) _) | exact HK.out)⟩

end Go.Proofs.Ytbifignggnfodaa.BW
