-- Written by a program of this session out of the translation (a changed copy of the kit's printer).
import Derived.Test.YtbifignggnfodaaB0
import Derived.Test.YtbifignggnfodaaB1
import Derived.Test.YtbifignggnfodaaB3
import Derived.Test.YtbifignggnfodaaB5
namespace Go.Proofs.Ytbifignggnfodaa.B
open Go.RowKit Go.Proofs.YtbifignggnfodaaW.PrintWords Go.Proofs.YtbifignggnfodaaW.PrintLast Go.Proofs.YtbifignggnfodaaW.PrintMore
attribute [local go_sem] max2_int min2_int max_two min_two max_three min_three max_four min_four   -- for this text's walks alone
set_option linter.unusedVariables false
set_option linter.unusedSimpArgs false

/-! ### portagelaw1_WriteBack: function 10 -/
mutual
def portagelaw1_WriteBack.l0 : Nat → List Int → List Int → Int → Int → List Int → Int → Option (Bool)
  | 0, _, _, _, _, _, _ => none
  | k + 1, x0, x1, x6, x7, x379000, x379001 => if x7 < x6 then (if 0 ≤ x7 then (if x7 < (x1.length : Int) then (if x7 < (x0.length : Int) then (if 0 ≤ (Go.bits .and .i64 (rd x1 x7) 15) then ((bits_Writer_Put.f k x379000 x379001 (Go.bits .and .i64 (rd x0 x7) (wrap64 ((shl .i64 1 (Go.bits .and .i64 (rd x1 x7) 15)) - 1))) (Go.bits .and .i64 (rd x1 x7) 15)).bind fun bt381 => ((portagelaw0_Num.f bt381.1).bind fun t386 => (if t386 = 0 then (portagelaw1_WriteBack.l0 k x0 x1 x6 (wrap64 (x7 + 1)) bt381.2.1 bt381.2.2) else (none)))) else (none)) else (none)) else (none)) else (none)) else ((bits_Writer_Text.f x379000 x379001).bind fun bt387 => (portagelaw1_WriteBack.l1 k x0 x1 x6 0 bt387.2.1 bt387.2.2 bt387.1 0))
def portagelaw1_WriteBack.l1 : Nat → List Int → List Int → Int → Int → List Int → Int → ByteArray → Int → Option (Bool)
  | 0, _, _, _, _, _, _, _, _ => none
  | k + 1, x0, x1, x6, x11, x379000, x379001, x393000, x393001 => if x11 < x6 then (if 0 ≤ x11 then (if x11 < (x1.length : Int) then ((bits_Reader_Get.f k x393000 x393001 (Go.bits .and .i64 (rd x1 x11) 15)).bind fun bt394 => ((portagelaw0_Num.f bt394.2.1).bind fun t398 => (if t398 = 0 then (if x11 < (x0.length : Int) then (if 0 ≤ (Go.bits .and .i64 (rd x1 x11) 15) then (if bt394.1 = (Go.bits .and .i64 (rd x0 x11) (wrap64 ((shl .i64 1 (Go.bits .and .i64 (rd x1 x11) 15)) - 1))) then (portagelaw1_WriteBack.l1 k x0 x1 x6 (wrap64 (x11 + 1)) x379000 x379001 bt394.2.2.1 bt394.2.2.2) else (none)) else (none)) else (none)) else (none)))) else (none)) else (none)) else ((bits_Reader_At.f x393000 x393001).bind fun bt400 => ((bits_Writer_Len.f x379000 x379001).bind fun bt403 => (if bt400.1 = bt403.1 then ((bits_Writer_Text.f bt403.2.1 bt403.2.2).bind fun bt408 => ((bits_Writer_Len.f bt408.2.1 bt408.2.2).bind fun bt413 => (some ((bt408.1.size : Int) == (wrap64 (Int.tdiv (wrap64 (bt413.1 + 7)) 8)))))) else (none))))
end
def portagelaw1_WriteBack.f (k : Nat) (l0 : List Int) (l1 : List Int) : Option (Bool) := (portagelaw1_awake.f k).bind fun t377 => (if t377 = true then (portagelaw1_WriteBack.l0 k l0 l1 (mn (mn (l0.length : Int) (l1.length : Int)) 60) 0 ([] : List Int) 0) else (none))
theorem portagelaw1_WriteBack.mono_l : ∀ k, (∀ y0 y1 y2 y3 y4 y5, LeO (portagelaw1_WriteBack.l0 k y0 y1 y2 y3 y4 y5) (portagelaw1_WriteBack.l0 (k + 1) y0 y1 y2 y3 y4 y5)) ∧ (∀ y0 y1 y2 y3 y4 y5 y6 y7, LeO (portagelaw1_WriteBack.l1 k y0 y1 y2 y3 y4 y5 y6 y7) (portagelaw1_WriteBack.l1 (k + 1) y0 y1 y2 y3 y4 y5 y6 y7))
  | 0 => ⟨fun _ _ _ _ _ _ r h => by simp [portagelaw1_WriteBack.l0] at h, fun _ _ _ _ _ _ _ _ r h => by simp [portagelaw1_WriteBack.l1] at h⟩
  | k + 1 => by
    obtain ⟨ih0, ih1⟩ := portagelaw1_WriteBack.mono_l k
    refine ⟨?_, ?_⟩
    · intro y0 y1 y2 y3 y4 y5
      unfold portagelaw1_WriteBack.l0
      repeat' first
      | (with_reducible exact ih0 _ _ _ _ _ _)
      | (with_reducible exact ih1 _ _ _ _ _ _ _ _)
      | (with_reducible exact bits_Reader_Get.mono _ _ _ _)
      | (with_reducible exact bits_Writer_Put.mono _ _ _ _ _)
      | (with_reducible exact portagelaw1_awake.mono _)
      | (with_reducible exact LeO.refl _)
      | (with_reducible exact LeO.none _)
      | (with_reducible refine LeO.ite ?_ ?_)
      | (with_reducible refine LeO.bind ?_ (fun _ => ?_))
      | exact ih0 _ _ _ _ _ _
      | exact ih1 _ _ _ _ _ _ _ _
      | exact bits_Reader_Get.mono _ _ _ _
      | exact bits_Writer_Put.mono _ _ _ _ _
      | exact portagelaw1_awake.mono _
      | exact LeO.none _
      | refine LeO.ite ?_ ?_
      | refine LeO.bind ?_ (fun _ => ?_)
    · intro y0 y1 y2 y3 y4 y5 y6 y7
      unfold portagelaw1_WriteBack.l1
      repeat' first
      | (with_reducible exact ih0 _ _ _ _ _ _)
      | (with_reducible exact ih1 _ _ _ _ _ _ _ _)
      | (with_reducible exact bits_Reader_Get.mono _ _ _ _)
      | (with_reducible exact bits_Writer_Put.mono _ _ _ _ _)
      | (with_reducible exact portagelaw1_awake.mono _)
      | (with_reducible exact LeO.refl _)
      | (with_reducible exact LeO.none _)
      | (with_reducible refine LeO.ite ?_ ?_)
      | (with_reducible refine LeO.bind ?_ (fun _ => ?_))
      | exact ih0 _ _ _ _ _ _
      | exact ih1 _ _ _ _ _ _ _ _
      | exact bits_Reader_Get.mono _ _ _ _
      | exact bits_Writer_Put.mono _ _ _ _ _
      | exact portagelaw1_awake.mono _
      | exact LeO.none _
      | refine LeO.ite ?_ ?_
      | refine LeO.bind ?_ (fun _ => ?_)
theorem portagelaw1_WriteBack.mono : ∀ a0 a1 k, LeO (portagelaw1_WriteBack.f k a0 a1) (portagelaw1_WriteBack.f (k + 1) a0 a1) := by
  intro a0 a1 k
  obtain ⟨ih0, ih1⟩ := portagelaw1_WriteBack.mono_l k
  unfold portagelaw1_WriteBack.f
  repeat' first
      | (with_reducible exact ih0 _ _ _ _ _ _)
      | (with_reducible exact ih1 _ _ _ _ _ _ _ _)
      | (with_reducible exact bits_Reader_Get.mono _ _ _ _)
      | (with_reducible exact bits_Writer_Put.mono _ _ _ _ _)
      | (with_reducible exact portagelaw1_awake.mono _)
      | (with_reducible exact LeO.refl _)
      | (with_reducible exact LeO.none _)
      | (with_reducible refine LeO.ite ?_ ?_)
      | (with_reducible refine LeO.bind ?_ (fun _ => ?_))
      | exact ih0 _ _ _ _ _ _
      | exact ih1 _ _ _ _ _ _ _ _
      | exact bits_Reader_Get.mono _ _ _ _
      | exact bits_Writer_Put.mono _ _ _ _ _
      | exact portagelaw1_awake.mono _
      | exact LeO.none _
      | refine LeO.ite ?_ ?_
      | refine LeO.bind ?_ (fun _ => ?_)
def portagelaw1_WriteBack.T11 : Bool × List (List Nat × List Nat) := (true, [([], []), ([], []), ([], []), ([1, 2], [1, 2]), ([3], [3]), ([], []), ([5], [5]), ([6], [6]), ([4, 7], [4, 7]), ([], []), ([0, 8, 9], [0, 8, 9]), ([10, 10, 0, 1, 2, 3, 4, 5, 6, 7, 8, 9, 10], [10])])
def portagelaw1_WriteBack.B11 : List Nat := [0, 0, 0, 6, 14, 0, 32, 96, 254, 0, 1023, 2047]
theorem portagelaw1_WriteBack.tab11 : rtab .any (opsOf Try.f10 11) = portagelaw1_WriteBack.T11 := by kernel_rfl
theorem portagelaw1_WriteBack.bits11 : waitsOk portagelaw1_WriteBack.T11.2 portagelaw1_WriteBack.B11 = true := by kernel_rfl
def portagelaw1_WriteBack.T22 : Bool × List (List Nat × List Nat) := (true, [([], []), ([0], [0]), ([1], [1]), ([2, 1], [2]), ([3], [3]), ([3], [3]), ([3], [3]), ([5, 6, 3], [3, 5, 6]), ([7, 3], [3, 7]), ([3], [3]), ([9, 3], [3, 9]), ([10, 3], [3, 10]), ([8, 11, 3], [3, 8, 11]), ([4, 12, 3], [3, 4, 12]), ([3, 13], [3, 13])])
def portagelaw1_WriteBack.B22 : List Nat := [0, 1, 3, 7, 15, 15, 15, 111, 239, 15, 527, 1551, 4079, 8191, 16383]
theorem portagelaw1_WriteBack.tab22 : rtab .any (opsOf Try.f10 22) = portagelaw1_WriteBack.T22 := by kernel_rfl
theorem portagelaw1_WriteBack.bits22 : waitsOk portagelaw1_WriteBack.T22.2 portagelaw1_WriteBack.B22 = true := by kernel_rfl
set_option maxHeartbeats 8000000 in
set_option maxRecDepth 100000 in
theorem portagelaw1_WriteBack.calls (k : Nat) (A0 : Option Addr) (c0 : Nat) (l0 : List Int) (A1 : Option Addr) (c1 : Nat) (l1 : List Int) (r : Bool) (w : World) (hr0 : Kd.C (Kd.int .i64) w A0 l0.length l0) (hc0 : l0.length ≤ c0) (hr1 : Kd.C (Kd.int .i64) w A1 l1.length l1) (hc1 : l1.length ≤ c1) (h : portagelaw1_WriteBack.f k l0 l1 = some r) :
    Calls Try.prog 10 #[.slice A0 l0.length c0, .slice A1 l1.length c1] w fun e w' => e = .returned (.bool r) ∧ Below w.heap.size w w' := by
  have HR0 := Aside0.mk hr0
  have HC0 := Aside0.mk hc0
  clear hr0 hc0
  have HR1 := Aside0.mk hr1
  have HC1 := Aside0.mk hc1
  clear hr1 hc1
  have HB := Aside0.mk (Below.refl w.heap.size w)
  have H : ((portagelaw1_awake.f k).bind fun t377 => (if t377 = true then (portagelaw1_WriteBack.l0 k l0 l1 (mn (mn (l0.length : Int) (l1.length : Int)) 60) 0 ([] : List Int) 0) else (none))) = some r := h
  clear h
  replace H := Option.bind_eq_some_iff.mp H
  obtain ⟨t377, A30, H⟩ := H
  replace H : (if t377 = true then (portagelaw1_WriteBack.l0 k l0 l1 (mn (mn (l0.length : Int) (l1.length : Int)) 60) 0 ([] : List Int) 0) else (none)) = some r := H
  have A3 := Aside0.mk A30
  clear A30
  by_cases c4 : t377 = true
  · subst c4
    have H1 : (portagelaw1_WriteBack.l0 k l0 l1 (mn (mn (l0.length : Int) (l1.length : Int)) 60) 0 ([] : List Int) 0) = some r := by rw [if_pos rfl] at H; exact H
    clear H
    have H := H1
    clear H1
    obtain ⟨ji5, hji5⟩ : ∃ j_ : Int, (mn (l0.length : Int) (l1.length : Int)) = j_ := ⟨_, rfl⟩
    replace H : (portagelaw1_WriteBack.l0 k l0 l1 (mn (ji5) 60) 0 ([] : List Int) 0) = some r := by first | (rw [hji5] at H; exact H) | (simp only [hji5] at H ⊢; exact H)
    (try rw [hji5] at A3)
    (try (have hji5l : 0 ≤ ji5 := by (rw [← hji5]; unfold mn; (repeat' split) <;> omega)))
    (try (have hji5m : 0 ≤ ji5 := by omega))
    have hji5n : (if l1.length < l0.length then (l1.length : Int) else (l0.length : Int)) = ji5 := (by rw [← hji5]; first | (unfold mx; (repeat' split) <;> first | rfl | omega) | (unfold mn; (repeat' split) <;> first | rfl | omega))
    have hji5_ : (if (l1.length : Int) < (l0.length : Int) then (l1.length : Int) else (l0.length : Int)) = ji5 := hji5
    obtain ⟨ji6, hji6⟩ : ∃ j_ : Int, (mn (ji5) 60) = j_ := ⟨_, rfl⟩
    replace H : (portagelaw1_WriteBack.l0 k l0 l1 ji6 0 ([] : List Int) 0) = some r := by first | (rw [hji6] at H; exact H) | (simp only [hji6] at H ⊢; exact H)
    (try rw [hji6] at A3)
    have hji6_ : (if 60 < (ji5) then 60 else (ji5)) = ji6 := hji6
    have H' := Aside0.mk H
    clear H
    go_enter Try.func10, Try.ntmps10
    go_wp2_with (first | ((with_reducible refine gate_callee (f := 51) rfl ?_); refine goesL_ (some 15) rfl rfl Try.func51 (by kernel_rfl) rfl #[] rfl (by (try simp only [List.map_toArray, List.map_cons, List.map_nil]); first | done | rfl | (simp only [List.length_drop, List.length_take]; rfl)) ?_; (with_reducible refine (portagelaw1_awake.calls k  true _ A3.out).mono ?_); rintro e w7 ⟨rfl, hb⟩; refine ⟨_, rfl, ?_⟩; have n0_ := Aside0.mk (below_step (by repeat (first | (with_reducible first | exact HB.out | apply below_alloc | apply pw_below_drewN | apply below_drew1) | exact HB.out)) hb); clear HB; have HB := n0_; clear n0_; (try clear hb); (try clear hb2); (try clear hk); (try clear hi)) | (go_at_call 35; (with_reducible refine (bits_New.calls  _).mono ?_); rintro e w8 ⟨gb378, rfl, hg, hbox, hb⟩; have n0_ := Aside0.mk (below_step (by repeat (first | (with_reducible first | exact HB.out | apply below_alloc | apply pw_below_drewN | apply below_drew1) | exact HB.out)) hb); have n1_ := Aside0.mk (hbox); have n2_ := Aside0.mk ((by rw [hg]; exact (below_size (by repeat (first | (with_reducible first | exact HB.out | apply below_alloc | apply pw_below_drewN | apply below_drew1) | exact HB.out))) : w.heap.size ≤ gb378)); have n3_ := Aside0.mk ((by rw [hg]; exact (below_size (by repeat (first | (with_reducible first | exact HB.out | apply below_alloc | apply pw_below_drewN | apply below_drew1) | exact HB.out))) : w.heap.size ≤ gb378)); clear HB; have HB := n0_; have BK378 := n1_; have GW378 := n2_; have GE378 := n3_; clear n0_ n1_ n2_ n3_; clear hb hbox hg))
    go_loopg [7] k (fun kq v7 w' => ∃ (x7_1 : Int) (x379000_1 : List Int) (x379001_1 : Int) (u379000 : Value), v7 = .int .i64 x7_1 ∧ Aside0 (portagelaw1_WriteBack.l0 kq l0 l1 ji6 x7_1 x379000_1 x379001_1 = some r) ∧ Aside0 (kq ≤ k) ∧ Aside0 (Kd.R (Kd.int .u8) 5 w' w.heap.size (fun _ => True) u379000 x379000_1) ∧ Aside0 (w'.heap[gb378]? = some (.cells #[u379000, .int .i64 x379001_1] 103 (0, 0))) ∧ Aside0 (Below w.heap.size w w'))
    case atStart => exact ⟨(0), (([] : List Int)), (0), (.slice none 0 0), (by first | rfl | (simp; done) | (simp [*]; done)), H', ⟨Nat.le_refl _⟩, ⟨by first | exact Kd.R_nil _ _ _ _ _ | exact Kd.N_nil _ _ _ _ _ | exact Kd.V_nil _ _ _ _ _ | exact Kd.Q_nil _ _ _ _ _ | exact Kd.S_nil _ _ _ _ _⟩, ⟨by (with_reducible repeat (first | refine blk_drewN ?_ _ | refine blk_drew ?_ | refine blk_alloc ?_ _)); exact BK378.out⟩, ⟨by repeat (first | (with_reducible first | exact HB.out | apply below_alloc | apply pw_below_drewN | apply below_drew1 | refine below_set ?_ GE378.out) | exact HB.out)⟩⟩
    case round =>
      clear H'
      try clear c1
      try clear p2
      try clear c4
      try clear c5
      obtain ⟨x7_1, x379000_1, x379001_1, u379000, rfl, HA, HK1, HO_379000, BK378, HB⟩ := hrel
      cases gk with
      | zero => exact absurd HA.out (by simp [portagelaw1_WriteBack.l0])
      | succ k1 =>
        have H := HA.out
        clear HA
        simp only [portagelaw1_WriteBack.l0] at H
        by_cases c9 : x7_1 < ji6
        · rw [if_pos c9] at H
          have c9b0 : decide (x7_1 < ji6) = true := decide_eq_true c9
          clear c9
          by_cases c10 : 0 ≤ x7_1
          · rw [if_pos c10] at H
            have c10b0 : decide (0 ≤ x7_1) = true := decide_eq_true c10
            clear c10
            by_cases c11 : x7_1 < (l1.length : Int)
            · rw [if_pos c11] at H
              have c11b0 : decide (x7_1 < (l1.length : Int)) = true := decide_eq_true c11
              clear c11
              by_cases c12 : x7_1 < (l0.length : Int)
              · rw [if_pos c12] at H
                have c12b0 : decide (x7_1 < (l0.length : Int)) = true := decide_eq_true c12
                clear c12
                by_cases c13 : 0 ≤ (Go.bits .and .i64 (rd l1 x7_1) 15)
                · rw [if_pos c13] at H
                  have c13b0 := eq_true c13
                  have c13b1 : decide (0 ≤ (Go.bits .and .i64 (rd l1 x7_1) 15)) = true := decide_eq_true c13
                  clear c13
                  obtain ⟨ji14, hji14⟩ : ∃ j_ : Int, (shl .i64 1 (Go.bits .and .i64 (rd l1 x7_1) 15)) = j_ := ⟨_, rfl⟩
                  replace H : ((bits_Writer_Put.f k1 x379000_1 x379001_1 (Go.bits .and .i64 (rd l0 x7_1) (wrap64 ((ji14) - 1))) (Go.bits .and .i64 (rd l1 x7_1) 15)).bind fun bt381 => ((portagelaw0_Num.f bt381.1).bind fun t386 => (if t386 = 0 then (portagelaw1_WriteBack.l0 k1 l0 l1 ji6 (wrap64 (x7_1 + 1)) bt381.2.1 bt381.2.2) else (none)))) = some r := by first | (rw [hji14] at H; exact H) | (simp only [hji14] at H ⊢; exact H)
                  have hji14_ : (IntKind.i64.wrap (1 * 2 ^ min (Go.bits .and .i64 (rd l1 x7_1) 15).toNat 64)) = ji14 := hji14
                  have hji14z : (Go.bits .and .i64 (rd l1 x7_1) 15) ≤ 64 → (IntKind.i64.wrap (1 * 2 ^ (Go.bits .and .i64 (rd l1 x7_1) 15).toNat)) = ji14 := shl_small hji14
                  have hji14u : (IntKind.i64.wrap (2 ^ min (Go.bits .and .i64 (rd l1 x7_1) 15).toNat 64)) = ji14 := by have h_ := hji14_; rw [Int.one_mul] at h_; exact h_
                  have hji14v : (Go.bits .and .i64 (rd l1 x7_1) 15) ≤ 64 → (IntKind.i64.wrap (2 ^ (Go.bits .and .i64 (rd l1 x7_1) 15).toNat)) = ji14 := fun hle_ => by have h_ := hji14z hle_; rw [Int.one_mul] at h_; exact h_
                  have hji14y : (wrap64 (1 * 2 ^ min (Go.bits .and .i64 (rd l1 x7_1) 15).toNat 64)) = ji14 := (i64_w _).symm.trans hji14_
                  have hji14x : (Go.bits .and .i64 (rd l1 x7_1) 15) ≤ 64 → (wrap64 (1 * 2 ^ (Go.bits .and .i64 (rd l1 x7_1) 15).toNat)) = ji14 := fun h_ => (i64_w _).symm.trans (hji14z h_)
                  replace H := Option.bind_eq_some_iff.mp H
                  obtain ⟨⟨t381, t382, t385⟩, A150, H⟩ := H
                  replace H : ((portagelaw0_Num.f t381).bind fun t386 => (if t386 = 0 then (portagelaw1_WriteBack.l0 k1 l0 l1 ji6 (wrap64 (x7_1 + 1)) t382 t385) else (none))) = some r := H
                  have A15 := Aside0.mk A150
                  clear A150
                  replace H := Option.bind_eq_some_iff.mp H
                  obtain ⟨t386, A160, H⟩ := H
                  replace H : (if t386 = 0 then (portagelaw1_WriteBack.l0 k1 l0 l1 ji6 (wrap64 (x7_1 + 1)) t382 t385) else (none)) = some r := H
                  have A16 := Aside0.mk A160
                  clear A160
                  by_cases c17 : t386 = 0
                  · rw [if_pos c17] at H
                    have c17b0 : (t386 == 0) = true := beq_iff_eq.mpr c17
                    have c17b1 : (t386 != 0) = false := bne_eq_false_iff_eq.mpr c17
                    clear c17
                    have H' := Aside0.mk H
                    clear H
                    have p379 : 0 ≤ (x7_1 : Int) := of_decide_eq_true (by first | (with_reducible assumption) | assumption)
                    have q379 : x7_1 < (l1.length : Int) := of_decide_eq_true (by first | (with_reducible assumption) | assumption)
                    obtain ⟨ad379, e379, hx379_0⟩ := Kd.at_int HR1.out x7_1 p379 q379
                    cases e379
                    replace hx379_0 := (HB.out.cell (World.block_lt_of_cell? w _ hx379_0)).trans hx379_0
                    replace p379 := eq_true p379
                    replace q379 := eq_true q379
                    try go_wp2
                    have n0_ := Aside0.mk (Kd.R_drew HO_379000.out)
                    have n1_ := Aside0.mk (blk_drew BK378.out)
                    have n2_ := Aside0.mk (below_drew1 HB.out)
                    clear HO_379000
                    clear BK378
                    clear HB
                    have HO_379000 := n0_
                    have BK378 := n1_
                    have HB := n2_
                    clear n0_ n1_ n2_
                    have p380 : 0 ≤ (x7_1 : Int) := of_decide_eq_true (by first | (with_reducible assumption) | assumption)
                    have q380 : x7_1 < (l0.length : Int) := of_decide_eq_true (by first | (with_reducible assumption) | assumption)
                    obtain ⟨ad380, e380, hx380_0⟩ := Kd.at_int HR0.out x7_1 p380 q380
                    have hw380_0 := hx380_0
                    cases e380
                    replace hx380_0 := (HB.out.cell (World.block_lt_of_cell? w _ hx380_0)).trans hx380_0
                    replace p380 := eq_true p380
                    replace q380 := eq_true q380
                    refine start_ (n := 12) (S := fun w' => w'.cell? (ad380.add (x7_1).toNat) = some (.int .i64 (rd l0 x7_1))) (ds := []) #[false, false, false, false, false, false, false, false, false, false, false, false] (by kernel_rfl) rfl rfl (((HB.out.cell (World.block_lt_of_cell? w _ hw380_0)).trans hw380_0)) (fun hHeld => ?_); refine with_tabW portagelaw1_WriteBack.tab11 portagelaw1_WriteBack.bits11 (fun HT_ HW_ => ?_)
                    generalize wr.drew = w18 at HO_379000 BK378 HB hx380_0 hHeld ⊢
                    refine pure_ (i := 0) (N := some 35) (v := ?_) (a' := ?_) #[true, false, false, false, false, false, false, false, false, false, false, false] rfl rfl (any_of HT_.out (by kernel_rfl)) (fun _ _ _ h => h) (Or.inl ⟨by rfl, ?_⟩) ?_ ?_
                    rotate_left
                    · intro w'
                      go_simp
                      with_reducible rfl
                    rotate_left
                    · simp only [Act.put, List.setIfInBounds_toArray, List.set_cons_zero, List.set_cons_succ, i64_w, i32_w, IntKind.wrap_u8, IntKind.wrap_u32]
                      rfl
                    refine pure_ (i := 1) (N := some 36) (v := ?_) (a' := ?_) #[true, true, false, false, false, false, false, false, false, false, false, false] rfl rfl (any_of HT_.out (by kernel_rfl)) (fun _ _ _ h => h) (Or.inl ⟨by rfl, ?_⟩) ?_ ?_
                    rotate_left
                    · intro w'
                      go_simp
                      with_reducible rfl
                    rotate_left
                    · simp only [Act.put, List.setIfInBounds_toArray, List.set_cons_zero, List.set_cons_succ, i64_w, i32_w, IntKind.wrap_u8, IntKind.wrap_u32]
                      rfl
                    refine pure_ (i := 2) (N := some 37) (v := ?_) (a' := ?_) #[true, true, true, false, false, false, false, false, false, false, false, false] rfl rfl (any_of HT_.out (by kernel_rfl)) (fun _ _ _ h => h) (Or.inl ⟨by rfl, ?_⟩) ?_ ?_
                    rotate_left
                    · intro w'
                      go_simp
                      with_reducible rfl
                    rotate_left
                    · simp only [Act.put, List.setIfInBounds_toArray, List.set_cons_zero, List.set_cons_succ, i64_w, i32_w, IntKind.wrap_u8, IntKind.wrap_u32]
                      rfl
                    refine pure_ (i := 3) (N := some 38) (v := ?_) (a' := ?_) #[true, true, true, true, false, false, false, false, false, false, false, false] rfl rfl (any_of HT_.out (by kernel_rfl)) (fun _ _ _ h => h) (Or.inl ⟨by rfl, ?_⟩) ?_ ?_
                    rotate_left
                    · intro w'
                      go_simp
                      with_reducible rfl
                    rotate_left
                    · simp only [Act.put, List.setIfInBounds_toArray, List.set_cons_zero, List.set_cons_succ, i64_w, i32_w, IntKind.wrap_u8, IntKind.wrap_u32]
                      rfl
                    refine pure_ (i := 5) (N := some 40) (v := ?_) (a' := ?_) #[true, true, true, true, false, true, false, false, false, false, false, false] rfl rfl (any_of HT_.out (by kernel_rfl)) (fun _ _ _ h => h) (Or.inl ⟨by rfl, ?_⟩) ?_ ?_
                    rotate_left
                    · intro w'
                      go_simp
                      with_reducible rfl
                    rotate_left
                    · simp only [Act.put, List.setIfInBounds_toArray, List.set_cons_zero, List.set_cons_succ, i64_w, i32_w, IntKind.wrap_u8, IntKind.wrap_u32]
                      rfl
                    refine pure_ (i := 6) (N := some 41) (v := ?_) (a' := ?_) #[true, true, true, true, false, true, true, false, false, false, false, false] rfl rfl (any_of HT_.out (by kernel_rfl)) (fun _ _ _ h => h) (Or.inl ⟨by rfl, ?_⟩) ?_ ?_
                    rotate_left
                    · intro w'
                      go_simp
                      with_reducible rfl
                    rotate_left
                    · simp only [Act.put, List.setIfInBounds_toArray, List.set_cons_zero, List.set_cons_succ, i64_w, i32_w, IntKind.wrap_u8, IntKind.wrap_u32]
                      rfl
                    refine pure_ (i := 7) (N := some 42) (v := ?_) (a' := ?_) #[true, true, true, true, false, true, true, true, false, false, false, false] rfl rfl (any_of HT_.out (by kernel_rfl)) (fun _ _ _ h => h) (Or.inl ⟨by rfl, ?_⟩) ?_ ?_
                    rotate_left
                    · intro w'
                      go_simp
                      with_reducible rfl
                    rotate_left
                    · simp only [Act.put, List.setIfInBounds_toArray, List.set_cons_zero, List.set_cons_succ, i64_w, i32_w, IntKind.wrap_u8, IntKind.wrap_u32]
                      rfl
                    refine pure_ (i := 9) (N := some 44) (v := ?_) (a' := ?_) #[true, true, true, true, false, true, true, true, false, true, false, false] rfl rfl (any_of HT_.out (by kernel_rfl)) (fun _ _ _ h => h) (Or.inl ⟨by rfl, ?_⟩) ?_ ?_
                    rotate_left
                    · intro w'
                      go_simp
                      with_reducible rfl
                    rotate_left
                    · simp only [Act.put, List.setIfInBounds_toArray, List.set_cons_zero, List.set_cons_succ, i64_w, i32_w, IntKind.wrap_u8, IntKind.wrap_u32]
                      rfl
                    refine take_ (i := 4) (N := some 39) (v := ?_) (a' := ?_) #[true, true, true, true, true, true, true, true, false, true, false, false] rfl rfl (take_ofW HT_.out HW_.out (by kernel_rfl)) (fun _ _ _ h => h) (Or.inl ⟨by rfl, ?_⟩) hHeld ?_ ?_
                    rotate_left
                    · intro w' s0
                      go_simp
                      with_reducible rfl
                    rotate_left
                    · simp only [Act.put, List.setIfInBounds_toArray, List.set_cons_zero, List.set_cons_succ, i64_w, i32_w, IntKind.wrap_u8, IntKind.wrap_u32]
                      rfl
                    refine pure_ (i := 8) (N := some 43) (v := ?_) (a' := ?_) #[true, true, true, true, true, true, true, true, true, true, false, false] rfl rfl (any_of HT_.out (by kernel_rfl)) (fun _ _ _ h => h) (Or.inl ⟨by rfl, ?_⟩) ?_ ?_
                    rotate_left
                    · intro w'
                      go_simp
                      with_reducible rfl
                    rotate_left
                    · simp only [Act.put, List.setIfInBounds_toArray, List.set_cons_zero, List.set_cons_succ, i64_w, i32_w, IntKind.wrap_u8, IntKind.wrap_u32]
                      rfl
                    refine one_ (i := 10) (N := some 45) #[true, true, true, true, true, true, true, true, true, true, true, false] rfl rfl (one_of HT_.out (by kernel_rfl)) (by decide) (fun K hK => ?_)
                    refine goes_ Try.func36 (by kernel_rfl) rfl #[.pointer (some ⟨gb378, 0, none⟩), .int .i64 (Go.bits .and .i64 (rd l0 x7_1) (wrap64 ((ji14) - 1))), .int .i64 (Go.bits .and .i64 (rd l1 x7_1) 15)] (by rfl) rfl rfl (by (try simp only [List.map_toArray, List.map_cons, List.map_nil]); first | done | (simp only [hji14]; rfl) | rfl | (simp only [List.length_drop, List.length_take]; rfl)) ?_
                    with_reducible refine (bits_Writer_Put.calls k1 (fun k_ => some k_ = (u379000 : Value).ownBlock ∨ k_ = gb378) gb378 x379000_1 x379001_1 (Go.bits .and .i64 (rd l0 x7_1) (wrap64 ((ji14) - 1))) (Go.bits .and .i64 (rd l1 x7_1) 15) t381 t382 t385 w _ ?side1 ?side2 A15.out).mono ?_
                    (case side1 => repeat (first | (with_reducible first | exact HB.out | apply below_alloc | apply pw_below_drewN | apply below_drew1 | refine below_set ?_ GE378.out) | exact HB.out))
                    (case side2 => exact ⟨_, (by (with_reducible repeat (first | refine blk_drewN ?_ _ | refine blk_drew ?_ | refine blk_alloc ?_ _)); exact BK378.out), GE378.out, .inr rfl, (Kd.R_mono (Kd.R_tight2 rfl (Kd.R_types HO_379000.out (by (with_reducible repeat (first | refine blk_drewN ?_ _ | refine blk_drew ?_ | refine blk_alloc ?_ _)); exact BK378.out) (by decide))) (fun k_ hk => ⟨.inl hk.1, hk.2.2⟩))⟩)
                    rintro e w19 ⟨rfl, ⟨v383, hbx_, _, _, hox_⟩, hb, hkp⟩
                    refine ⟨_, rfl, ?_⟩
                    have ho0 := Kd.R_mono (ok' := fun k_ => some k_ = (u379000 : Value).ownBlock ∨ w18.heap.size ≤ k_) hox_ (fun k_ h_ => Or.elim h_.1 (fun h1_ => Or.elim h1_ Or.inl (fun e_ => absurd e_ h_.2)) Or.inr)
                    have n0_ := Aside0.mk (hbx_)
                    have n1_ := Aside0.mk (Kd.R_mono (ok' := fun k_ => True) ho0 (fun k_ hk_ => trivial))
                    have n2_ := Aside0.mk (hb)
                    clear BK378
                    clear HB
                    clear HO_379000
                    have BK378 := n0_
                    have HO384 := n1_
                    have HB := n2_
                    clear n0_ n1_ n2_
                    (try clear hb)
                    (try clear hkp)
                    (try clear hbx_)
                    (try clear hox_)
                    (try clear ho0)
                    refine hK.out _ _ (((HB.out.cell (World.block_lt_of_cell? w _ hw380_0)).trans hw380_0)) (fun hHeld => ?_)
                    clear hK K
                    refine norm_ (a' := ?_) ?_ ?_
                    rotate_left
                    · show Act.put _ (some 45) _ = _
                      simp only [Act.put, List.setIfInBounds_toArray, List.set_cons_zero, List.set_cons_succ, i64_w, i32_w, IntKind.wrap_u8, IntKind.wrap_u32]
                      rfl
                    refine pure_ (i := 11) (N := some 9) (v := ?_) (a' := ?_) #[true, true, true, true, true, true, true, true, true, true, true, true] rfl rfl (any_of HT_.out (by kernel_rfl)) (fun _ _ _ h => h) (Or.inl ⟨by rfl, ?_⟩) ?_ ?_
                    rotate_left
                    · intro w'
                      go_simp
                      with_reducible rfl
                    rotate_left
                    · simp only [Act.put, List.setIfInBounds_toArray, List.set_cons_zero, List.set_cons_succ, i64_w, i32_w, IntKind.wrap_u8, IntKind.wrap_u32]
                      rfl
                    refine done_ (done_of HT_.out (by kernel_rfl)) ?_
                    try go_wp2_with (first | ((with_reducible refine gate_callee (f := 29) rfl ?_); refine goesL_ (some 47) rfl rfl Try.func29 (by kernel_rfl) rfl #[.int .i64 t381] rfl (by (try simp only [List.map_toArray, List.map_cons, List.map_nil]); first | done | rfl | (simp only [List.length_drop, List.length_take]; rfl)) ?_; (with_reducible refine (portagelaw0_Num.calls t381 t386 _ A16.out).mono ?_); rintro e w' ⟨rfl, ⟨nd, rfl⟩⟩; refine ⟨_, rfl, ?_⟩))
                    go_roundg k1
                    case measure => have := HK1.out; omega
                    case rel => exact ⟨(wrap64 (x7_1 + 1)), (t382), (t385), (v383), (by first | rfl | (simp; done) | (simp [*]; done)), H', ⟨by have := HK1.out; omega⟩, ⟨by (with_reducible repeat (first | apply Kd.R_alloc | apply Kd.R_drewN | apply Kd.R_drew)); exact HO384.out⟩, ⟨by (with_reducible repeat (first | refine blk_drewN ?_ _ | refine blk_drew ?_ | refine blk_alloc ?_ _)); exact BK378.out⟩, ⟨by repeat (first | (with_reducible first | exact HB.out | apply below_alloc | apply pw_below_drewN | apply below_drew1 | refine below_set ?_ GE378.out) | exact HB.out)⟩⟩
                  · rw [if_neg c17] at H
                    exact absurd H (by simp)
                · rw [if_neg c13] at H
                  exact absurd H (by simp)
              · rw [if_neg c12] at H
                exact absurd H (by simp)
            · rw [if_neg c11] at H
              exact absurd H (by simp)
          · rw [if_neg c10] at H
            exact absurd H (by simp)
        · rw [if_neg c9] at H
          have c9b0 : decide (x7_1 < ji6) = false := decide_eq_false c9
          clear c9
          replace H := Option.bind_eq_some_iff.mp H
          obtain ⟨⟨t387, t388, t391⟩, A200, H⟩ := H
          replace H : (portagelaw1_WriteBack.l1 k1 l0 l1 ji6 0 t388 t391 t387 0) = some r := H
          have A20 := Aside0.mk A200
          clear A200
          have H' := Aside0.mk H
          clear H
          go_wp2_with (first | ((with_reducible refine gate_callee (f := 44) rfl ?_); refine goesL_ (some 50) rfl rfl Try.func44 (by kernel_rfl) rfl #[.pointer (some ⟨gb378, 0, none⟩)] rfl (by (try simp only [List.map_toArray, List.map_cons, List.map_nil]); first | done | rfl | (simp only [List.length_drop, List.length_take]; rfl)) ?_; (with_reducible refine (bits_Writer_Text.calls (fun k_ => some k_ = (u379000 : Value).ownBlock ∨ k_ = gb378) gb378 x379000_1 x379001_1 t387 t388 t391 w _ ?side1 ?side2 A20.out).mono ?_); (case side1 => repeat (first | (with_reducible first | exact HB.out | apply below_alloc | apply pw_below_drewN | apply below_drew1 | refine below_set ?_ GE378.out) | exact HB.out)); (case side2 => exact ⟨_, (by (with_reducible repeat (first | refine blk_drewN ?_ _ | refine blk_drew ?_ | refine blk_alloc ?_ _)); exact BK378.out), GE378.out, .inr rfl, (Kd.R_mono (Kd.R_tight2 rfl (Kd.R_types HO_379000.out (by (with_reducible repeat (first | refine blk_drewN ?_ _ | refine blk_drew ?_ | refine blk_alloc ?_ _)); exact BK378.out) (by decide))) (fun k_ hk => ⟨.inl hk.1, hk.2.2⟩))⟩); rintro e w21 ⟨rfl, ⟨v389, hbx_, _, _, hox_⟩, hb, hkp⟩; refine ⟨_, rfl, ?_⟩; have ho0 := Kd.R_mono (ok' := fun k_ => some k_ = (u379000 : Value).ownBlock ∨ wr.heap.size ≤ k_) hox_ (fun k_ h_ => Or.elim h_.1 (fun h1_ => Or.elim h1_ Or.inl (fun e_ => absurd e_ h_.2)) Or.inr); have n0_ := Aside0.mk (hbx_); have n1_ := Aside0.mk (Kd.R_mono (ok' := fun k_ => True) ho0 (fun k_ hk_ => trivial)); have n2_ := Aside0.mk (hb); clear BK378; clear HB; clear HO_379000; have BK378 := n0_; have HO390 := n1_; have HB := n2_; clear n0_ n1_ n2_; (try clear hb); (try clear hkp); (try clear hbx_); (try clear hox_); (try clear ho0)) | (go_at_call 43; (with_reducible refine (bits_Of.calls t387 _).mono ?_); rintro e w22 ⟨gb392, rfl, hg, hbox, hb⟩; have n0_ := Aside0.mk (Kd.R_below (by (with_reducible repeat (first | apply Kd.R_alloc | apply Kd.R_drewN | apply Kd.R_drew)); exact HO390.out) hb); have n1_ := Aside0.mk (blk_below (g := gb378) (o := .cells #[v389, .int .i64 t391] 103 (0, 0)) (by (with_reducible repeat (first | refine blk_drewN ?_ _ | refine blk_drew ?_ | refine blk_alloc ?_ _)); exact BK378.out) hb); have n2_ := Aside0.mk (below_step (by repeat (first | (with_reducible first | exact HB.out | apply below_alloc | apply pw_below_drewN | apply below_drew1 | refine below_set ?_ GE378.out) | exact HB.out)) hb); have n3_ := Aside0.mk (hbox); have n4_ := Aside0.mk ((by rw [hg]; exact (below_size (by repeat (first | (with_reducible first | exact HB.out | apply below_alloc | apply pw_below_drewN | apply below_drew1 | refine below_set ?_ GE378.out) | exact HB.out))) : w.heap.size ≤ gb392)); have n5_ := Aside0.mk ((by rw [hg]; exact (below_size (by repeat (first | (with_reducible first | exact HB.out | apply below_alloc | apply pw_below_drewN | apply below_drew1 | refine below_set ?_ GE378.out) | exact HB.out))) : w.heap.size ≤ gb392)); have n6_ := Aside0.mk ((by rw [hg]; exact Nat.ne_of_lt (blk_lt (g := gb378) (o := .cells #[v389, .int .i64 t391] 103 (0, 0)) (by (with_reducible repeat (first | refine blk_drewN ?_ _ | refine blk_drew ?_ | refine blk_alloc ?_ _)); exact BK378.out)) : gb378 ≠ gb392)); have n7_ := Aside0.mk ((by rw [hg]; exact Nat.ne_of_gt (blk_lt (g := gb378) (o := .cells #[v389, .int .i64 t391] 103 (0, 0)) (by (with_reducible repeat (first | refine blk_drewN ?_ _ | refine blk_drew ?_ | refine blk_alloc ?_ _)); exact BK378.out)) : gb392 ≠ gb378)); clear HO390; clear BK378; clear HB; have HO390 := n0_; have BK378 := n1_; have HB := n2_; have BK392 := n3_; have GW392 := n4_; have GE392 := n5_; have NB378_392 := n6_; have NB392_378 := n7_; clear n0_ n1_ n2_ n3_ n4_ n5_ n6_ n7_; clear hb hbox hg))
          go_loopg [11] k1 (fun kq v11 w' => ∃ (x11_2 : Int) (x393000_2 : ByteArray) (x393001_2 : Int), v11 = .int .i64 x11_2 ∧ Aside0 (portagelaw1_WriteBack.l1 kq l0 l1 ji6 x11_2 t388 t391 x393000_2 x393001_2 = some r) ∧ Aside0 (kq ≤ k1) ∧ Aside0 (Kd.R (Kd.int .u8) 5 w' w.heap.size (fun _ => True) v389 t388) ∧ Aside0 (w'.heap[gb378]? = some (.cells #[v389, .int .i64 t391] 103 (0, 0))) ∧ Aside0 (w'.heap[gb392]? = some (.cells #[.string x393000_2, .int .i64 x393001_2] 107 (0, 0))) ∧ Aside0 (Below w.heap.size w w'))
          case atStart => exact ⟨(0), (t387), (0), (by first | rfl | (simp; done) | (simp [*]; done)), H', ⟨Nat.le_refl _⟩, ⟨by (with_reducible repeat (first | apply Kd.R_alloc | apply Kd.R_drewN | apply Kd.R_drew)); exact HO390.out⟩, ⟨by (with_reducible repeat (first | refine blk_drewN ?_ _ | refine blk_drew ?_ | refine blk_alloc ?_ _)); exact BK378.out⟩, ⟨by (with_reducible repeat (first | refine blk_drewN ?_ _ | refine blk_drew ?_ | refine blk_alloc ?_ _)); exact BK392.out⟩, ⟨by repeat (first | (with_reducible first | exact HB.out | apply below_alloc | apply pw_below_drewN | apply below_drew1 | refine below_set ?_ GE378.out | refine below_set ?_ GE392.out) | exact HB.out)⟩⟩
          case round =>
            clear H'
            try clear c1
            try clear c2
            try clear p2
            try clear c3
            try clear p3
            try clear q3
            try clear hx3
            try clear c4
            try clear c5
            try clear p6
            try clear c9
            try clear c9b0
            try clear c10
            try clear c10b0
            try clear c11
            try clear c11b0
            try clear c12
            try clear c12b0
            try clear c13
            try clear c13b0
            try clear c13b1
            try clear c17
            try clear c17b0
            try clear c17b1
            try clear hx379_0
            try clear hx380_0
            try clear p2
            try clear p379
            try clear p380
            try clear q379
            try clear q380
            obtain ⟨x11_2, x393000_2, x393001_2, rfl, HA, HK2, HO_379000, BK378, BK392, HB⟩ := hrel
            cases gk with
            | zero => exact absurd HA.out (by simp [portagelaw1_WriteBack.l1])
            | succ k2 =>
              have H := HA.out
              clear HA
              simp only [portagelaw1_WriteBack.l1] at H
              by_cases c23 : x11_2 < ji6
              · rw [if_pos c23] at H
                have c23b0 : decide (x11_2 < ji6) = true := decide_eq_true c23
                clear c23
                by_cases c24 : 0 ≤ x11_2
                · rw [if_pos c24] at H
                  have c24b0 : decide (0 ≤ x11_2) = true := decide_eq_true c24
                  clear c24
                  by_cases c25 : x11_2 < (l1.length : Int)
                  · rw [if_pos c25] at H
                    have c25b0 : decide (x11_2 < (l1.length : Int)) = true := decide_eq_true c25
                    clear c25
                    replace H := Option.bind_eq_some_iff.mp H
                    obtain ⟨⟨t394, t395, t396, t397⟩, A260, H⟩ := H
                    replace H : ((portagelaw0_Num.f t395).bind fun t398 => (if t398 = 0 then (if x11_2 < (l0.length : Int) then (if 0 ≤ (Go.bits .and .i64 (rd l1 x11_2) 15) then (if t394 = (Go.bits .and .i64 (rd l0 x11_2) (wrap64 ((shl .i64 1 (Go.bits .and .i64 (rd l1 x11_2) 15)) - 1))) then (portagelaw1_WriteBack.l1 k2 l0 l1 ji6 (wrap64 (x11_2 + 1)) t388 t391 t396 t397) else (none)) else (none)) else (none)) else (none))) = some r := H
                    have A26 := Aside0.mk A260
                    clear A260
                    replace H := Option.bind_eq_some_iff.mp H
                    obtain ⟨t398, A270, H⟩ := H
                    replace H : (if t398 = 0 then (if x11_2 < (l0.length : Int) then (if 0 ≤ (Go.bits .and .i64 (rd l1 x11_2) 15) then (if t394 = (Go.bits .and .i64 (rd l0 x11_2) (wrap64 ((shl .i64 1 (Go.bits .and .i64 (rd l1 x11_2) 15)) - 1))) then (portagelaw1_WriteBack.l1 k2 l0 l1 ji6 (wrap64 (x11_2 + 1)) t388 t391 t396 t397) else (none)) else (none)) else (none)) else (none)) = some r := H
                    have A27 := Aside0.mk A270
                    clear A270
                    by_cases c28 : t398 = 0
                    · rw [if_pos c28] at H
                      have c28b0 : (t398 == 0) = true := beq_iff_eq.mpr c28
                      have c28b1 : (t398 != 0) = false := bne_eq_false_iff_eq.mpr c28
                      clear c28
                      by_cases c29 : x11_2 < (l0.length : Int)
                      · rw [if_pos c29] at H
                        have c29b0 : decide (x11_2 < (l0.length : Int)) = true := decide_eq_true c29
                        clear c29
                        by_cases c30 : 0 ≤ (Go.bits .and .i64 (rd l1 x11_2) 15)
                        · rw [if_pos c30] at H
                          have c30b0 := eq_true c30
                          have c30b1 : decide (0 ≤ (Go.bits .and .i64 (rd l1 x11_2) 15)) = true := decide_eq_true c30
                          clear c30
                          obtain ⟨ji31, hji31⟩ : ∃ j_ : Int, (shl .i64 1 (Go.bits .and .i64 (rd l1 x11_2) 15)) = j_ := ⟨_, rfl⟩
                          replace H : (if t394 = (Go.bits .and .i64 (rd l0 x11_2) (wrap64 ((ji31) - 1))) then (portagelaw1_WriteBack.l1 k2 l0 l1 ji6 (wrap64 (x11_2 + 1)) t388 t391 t396 t397) else (none)) = some r := by first | (rw [hji31] at H; exact H) | (simp only [hji31] at H ⊢; exact H)
                          (try rw [hji31] at A26)
                          (try rw [hji31] at A27)
                          have hji31_ : (IntKind.i64.wrap (1 * 2 ^ min (Go.bits .and .i64 (rd l1 x11_2) 15).toNat 64)) = ji31 := hji31
                          have hji31z : (Go.bits .and .i64 (rd l1 x11_2) 15) ≤ 64 → (IntKind.i64.wrap (1 * 2 ^ (Go.bits .and .i64 (rd l1 x11_2) 15).toNat)) = ji31 := shl_small hji31
                          have hji31u : (IntKind.i64.wrap (2 ^ min (Go.bits .and .i64 (rd l1 x11_2) 15).toNat 64)) = ji31 := by have h_ := hji31_; rw [Int.one_mul] at h_; exact h_
                          have hji31v : (Go.bits .and .i64 (rd l1 x11_2) 15) ≤ 64 → (IntKind.i64.wrap (2 ^ (Go.bits .and .i64 (rd l1 x11_2) 15).toNat)) = ji31 := fun hle_ => by have h_ := hji31z hle_; rw [Int.one_mul] at h_; exact h_
                          have hji31y : (wrap64 (1 * 2 ^ min (Go.bits .and .i64 (rd l1 x11_2) 15).toNat 64)) = ji31 := (i64_w _).symm.trans hji31_
                          have hji31x : (Go.bits .and .i64 (rd l1 x11_2) 15) ≤ 64 → (wrap64 (1 * 2 ^ (Go.bits .and .i64 (rd l1 x11_2) 15).toNat)) = ji31 := fun h_ => (i64_w _).symm.trans (hji31z h_)
                          by_cases c32 : t394 = (Go.bits .and .i64 (rd l0 x11_2) (wrap64 ((ji31) - 1)))
                          · rw [if_pos c32] at H
                            have c32b0 : (t394 == (Go.bits .and .i64 (rd l0 x11_2) (wrap64 ((ji31) - 1)))) = true := beq_iff_eq.mpr c32
                            have c32b1 : (t394 != (Go.bits .and .i64 (rd l0 x11_2) (wrap64 ((ji31) - 1)))) = false := bne_eq_false_iff_eq.mpr c32
                            clear c32
                            have H' := Aside0.mk H
                            clear H
                            have p393 : 0 ≤ (x11_2 : Int) := of_decide_eq_true (by first | (with_reducible assumption) | assumption)
                            have q393 : x11_2 < (l1.length : Int) := of_decide_eq_true (by first | (with_reducible assumption) | assumption)
                            obtain ⟨ad393, e393, hx393_0⟩ := Kd.at_int HR1.out x11_2 p393 q393
                            cases e393
                            replace hx393_0 := (HB.out.cell (World.block_lt_of_cell? w _ hx393_0)).trans hx393_0
                            replace p393 := eq_true p393
                            replace q393 := eq_true q393
                            try go_wp2_with (first | ((with_reducible refine gate_callee (f := 48) rfl ?_); refine goesL_ (some 67) rfl rfl Try.func48 (by kernel_rfl) rfl #[.pointer (some ⟨gb392, 0, none⟩), .int .i64 (Go.bits .and .i64 (rd l1 x11_2) 15)] rfl (by (try simp only [List.map_toArray, List.map_cons, List.map_nil]); first | done | rfl | (simp only [List.length_drop, List.length_take]; rfl)) ?_; (with_reducible refine (bits_Reader_Get.calls k2 (fun k_ => some k_ = (.slice none 0 0 : Value).ownBlock ∨ k_ = gb392) gb392 x393000_2 x393001_2 (Go.bits .and .i64 (rd l1 x11_2) 15) t394 t395 t396 t397 w _ ?side1 ?side2 A26.out).mono ?_); (case side1 => repeat (first | (with_reducible first | exact HB.out | apply below_alloc | apply pw_below_drewN | apply below_drew1 | refine below_set ?_ GE378.out | refine below_set ?_ GE392.out) | exact HB.out)); (case side2 => exact ⟨(by (with_reducible repeat (first | refine blk_drewN ?_ _ | refine blk_drew ?_ | refine blk_alloc ?_ _)); exact BK392.out), GE392.out, .inr rfl⟩); rintro e w33 ⟨rfl, ⟨hbx_, _, _⟩, hb, hkp⟩; refine ⟨_, rfl, ?_⟩; have n0_ := Aside0.mk (Kd.R_mono (ok' := fun k_ => True) (Kd.R_keptB ((Kd.R_types HO_379000.out (by (with_reducible repeat (first | refine blk_drewN ?_ _ | refine blk_drew ?_ | refine blk_alloc ?_ _)); exact BK392.out) (by decide))) hkp (fun k_ hk_ hs_ => Or.elim hs_ (fun hs_ => (fun e_ => by simp [Value.ownBlock] at e_) hs_) (fun e_ => (hk_.2) e_))) (fun k_ hk_ => trivial)); have n1_ := Aside0.mk (blk_kept (by (with_reducible repeat (first | refine blk_drewN ?_ _ | refine blk_drew ?_ | refine blk_alloc ?_ _)); exact BK378.out) hkp (fun hs_ => Or.elim hs_ (fun hs_ => (fun e_ => by simp [Value.ownBlock] at e_) hs_) (fun e_ => NB378_392.out e_))); have n2_ := Aside0.mk (hbx_); have n3_ := Aside0.mk (hb); clear HO_379000; clear BK378; clear BK392; clear HB; have HO_379000 := n0_; have BK378 := n1_; have BK392 := n2_; have HB := n3_; clear n0_ n1_ n2_ n3_; (try clear hb); (try clear hkp); (try clear hbx_); (try clear hox_)))
                            have n0_ := Aside0.mk (Kd.R_drew HO_379000.out)
                            have n1_ := Aside0.mk (blk_drew BK378.out)
                            have n2_ := Aside0.mk (blk_drew BK392.out)
                            have n3_ := Aside0.mk (below_drew1 HB.out)
                            clear HO_379000
                            clear BK378
                            clear BK392
                            clear HB
                            have HO_379000 := n0_
                            have BK378 := n1_
                            have BK392 := n2_
                            have HB := n3_
                            clear n0_ n1_ n2_ n3_
                            have p399 : 0 ≤ (x11_2 : Int) := of_decide_eq_true (by first | (with_reducible assumption) | assumption)
                            have q399 : x11_2 < (l0.length : Int) := of_decide_eq_true (by first | (with_reducible assumption) | assumption)
                            obtain ⟨ad399, e399, hx399_0⟩ := Kd.at_int HR0.out x11_2 p399 q399
                            have hw399_0 := hx399_0
                            cases e399
                            replace hx399_0 := (HB.out.cell (World.block_lt_of_cell? w _ hx399_0)).trans hx399_0
                            replace p399 := eq_true p399
                            replace q399 := eq_true q399
                            refine start_ (n := 15) (S := fun w' => w'.cell? (ad399.add (x11_2).toNat) = some (.int .i64 (rd l0 x11_2))) (ds := []) #[false, false, false, false, false, false, false, false, false, false, false, false, false, false, false] (by kernel_rfl) rfl rfl (((HB.out.cell (World.block_lt_of_cell? w _ hw399_0)).trans hw399_0)) (fun hHeld => ?_); refine with_tabW portagelaw1_WriteBack.tab22 portagelaw1_WriteBack.bits22 (fun HT_ HW_ => ?_)
                            generalize w33.drew = w34 at HO_379000 BK378 BK392 HB hx399_0 hHeld ⊢
                            refine pure_ (i := 0) (N := some 70) (v := ?_) (a' := ?_) #[true, false, false, false, false, false, false, false, false, false, false, false, false, false, false] rfl rfl (any_of HT_.out (by kernel_rfl)) (fun _ _ _ h => h) (Or.inl ⟨by rfl, ?_⟩) ?_ ?_
                            rotate_left
                            · intro w'
                              go_simp
                              with_reducible rfl
                            rotate_left
                            · simp only [Act.put, List.setIfInBounds_toArray, List.set_cons_zero, List.set_cons_succ, i64_w, i32_w, IntKind.wrap_u8, IntKind.wrap_u32]
                              rfl
                            refine one_ (i := 1) (N := some 71) #[true, true, false, false, false, false, false, false, false, false, false, false, false, false, false] rfl rfl (one_of HT_.out (by kernel_rfl)) (by decide) (fun K hK => ?_)
                            refine goes_ Try.func29 (by kernel_rfl) rfl #[.int .i64 t395] (by rfl) rfl rfl (by (try simp only [List.map_toArray, List.map_cons, List.map_nil]); first | done | rfl | (simp only [List.length_drop, List.length_take]; rfl)) ?_
                            with_reducible refine (portagelaw0_Num.calls t395 t398 _ A27.out).mono ?_
                            rintro e w' ⟨rfl, ⟨nd, rfl⟩⟩
                            refine ⟨_, rfl, ?_⟩
                            refine hK.out _ _ (((HB.out.cell (World.block_lt_of_cell? w _ hw399_0)).trans hw399_0)) (fun hHeld => ?_)
                            clear hK K
                            refine norm_ (a' := ?_) ?_ ?_
                            rotate_left
                            · show Act.put _ (some 71) _ = _
                              simp only [Act.put, List.setIfInBounds_toArray, List.set_cons_zero, List.set_cons_succ, i64_w, i32_w, IntKind.wrap_u8, IntKind.wrap_u32]
                              rfl
                            refine pure_ (i := 2) (N := some 72) (v := ?_) (a' := ?_) #[true, true, true, false, false, false, false, false, false, false, false, false, false, false, false] rfl rfl (any_of HT_.out (by kernel_rfl)) (fun _ _ _ h => h) (Or.inl ⟨by rfl, ?_⟩) ?_ ?_
                            rotate_left
                            · intro w'
                              go_simp
                              with_reducible rfl
                            rotate_left
                            · simp only [Act.put, List.setIfInBounds_toArray, List.set_cons_zero, List.set_cons_succ, i64_w, i32_w, IntKind.wrap_u8, IntKind.wrap_u32]
                              rfl
                            refine pure_ (i := 3) (N := some 73) (v := ?_) (a' := ?_) #[true, true, true, true, false, false, false, false, false, false, false, false, false, false, false] rfl rfl (any_of HT_.out (by kernel_rfl)) (fun _ _ _ h => h) (Or.inl ⟨by rfl, ?_⟩) ?_ ?_
                            rotate_left
                            · intro w'
                              go_simp
                              with_reducible rfl
                            rotate_left
                            · simp only [Act.put, List.setIfInBounds_toArray, List.set_cons_zero, List.set_cons_succ, i64_w, i32_w, IntKind.wrap_u8, IntKind.wrap_u32]
                              rfl
                            refine pure_ (i := 4) (N := some 74) (v := ?_) (a' := ?_) #[true, true, true, true, true, false, false, false, false, false, false, false, false, false, false] rfl rfl (any_of HT_.out (by kernel_rfl)) (fun _ _ _ h => h) (Or.inl ⟨by rfl, ?_⟩) ?_ ?_
                            rotate_left
                            · intro w'
                              go_simp
                              with_reducible rfl
                            rotate_left
                            · simp only [Act.put, List.setIfInBounds_toArray, List.set_cons_zero, List.set_cons_succ, i64_w, i32_w, IntKind.wrap_u8, IntKind.wrap_u32]
                              rfl
                            refine pure_ (i := 5) (N := some 75) (v := ?_) (a' := ?_) #[true, true, true, true, true, true, false, false, false, false, false, false, false, false, false] rfl rfl (any_of HT_.out (by kernel_rfl)) (fun _ _ _ h => h) (Or.inl ⟨by rfl, ?_⟩) ?_ ?_
                            rotate_left
                            · intro w'
                              go_simp
                              with_reducible rfl
                            rotate_left
                            · simp only [Act.put, List.setIfInBounds_toArray, List.set_cons_zero, List.set_cons_succ, i64_w, i32_w, IntKind.wrap_u8, IntKind.wrap_u32]
                              rfl
                            refine pure_ (i := 6) (N := some 76) (v := ?_) (a' := ?_) #[true, true, true, true, true, true, true, false, false, false, false, false, false, false, false] rfl rfl (any_of HT_.out (by kernel_rfl)) (fun _ _ _ h => h) (Or.inl ⟨by rfl, ?_⟩) ?_ ?_
                            rotate_left
                            · intro w'
                              go_simp
                              with_reducible rfl
                            rotate_left
                            · simp only [Act.put, List.setIfInBounds_toArray, List.set_cons_zero, List.set_cons_succ, i64_w, i32_w, IntKind.wrap_u8, IntKind.wrap_u32]
                              rfl
                            refine pure_ (i := 7) (N := some 77) (v := ?_) (a' := ?_) #[true, true, true, true, true, true, true, true, false, false, false, false, false, false, false] rfl rfl (any_of HT_.out (by kernel_rfl)) (fun _ _ _ h => h) (Or.inl ⟨by rfl, ?_⟩) ?_ ?_
                            rotate_left
                            · intro w'
                              go_simp
                              with_reducible rfl
                            rotate_left
                            · simp only [Act.put, List.setIfInBounds_toArray, List.set_cons_zero, List.set_cons_succ, i64_w, i32_w, IntKind.wrap_u8, IntKind.wrap_u32]
                              rfl
                            refine pure_ (i := 9) (N := some 79) (v := ?_) (a' := ?_) #[true, true, true, true, true, true, true, true, false, true, false, false, false, false, false] rfl rfl (any_of HT_.out (by kernel_rfl)) (fun _ _ _ h => h) (Or.inl ⟨by rfl, ?_⟩) ?_ ?_
                            rotate_left
                            · intro w'
                              go_simp
                              with_reducible rfl
                            rotate_left
                            · simp only [Act.put, List.setIfInBounds_toArray, List.set_cons_zero, List.set_cons_succ, i64_w, i32_w, IntKind.wrap_u8, IntKind.wrap_u32]
                              rfl
                            refine pure_ (i := 10) (N := some 80) (v := ?_) (a' := ?_) #[true, true, true, true, true, true, true, true, false, true, true, false, false, false, false] rfl rfl (any_of HT_.out (by kernel_rfl)) (fun _ _ _ h => h) (Or.inl ⟨by rfl, ?_⟩) ?_ ?_
                            rotate_left
                            · intro w'
                              go_simp
                              with_reducible rfl
                            rotate_left
                            · simp only [Act.put, List.setIfInBounds_toArray, List.set_cons_zero, List.set_cons_succ, i64_w, i32_w, IntKind.wrap_u8, IntKind.wrap_u32]
                              rfl
                            refine pure_ (i := 11) (N := some 81) (v := ?_) (a' := ?_) #[true, true, true, true, true, true, true, true, false, true, true, true, false, false, false] rfl rfl (any_of HT_.out (by kernel_rfl)) (fun _ _ _ h => h) (Or.inl ⟨by rfl, ?_⟩) ?_ ?_
                            rotate_left
                            · intro w'
                              go_simp
                              with_reducible rfl
                            rotate_left
                            · simp only [Act.put, List.setIfInBounds_toArray, List.set_cons_zero, List.set_cons_succ, i64_w, i32_w, IntKind.wrap_u8, IntKind.wrap_u32]
                              rfl
                            refine take_ (i := 8) (N := some 78) (v := ?_) (a' := ?_) #[true, true, true, true, true, true, true, true, true, true, true, true, false, false, false] rfl rfl (take_ofW HT_.out HW_.out (by kernel_rfl)) (fun _ _ _ h => h) (Or.inl ⟨by rfl, ?_⟩) hHeld ?_ ?_
                            rotate_left
                            · intro w' s0
                              go_simp
                              with_reducible rfl
                            rotate_left
                            · simp only [Act.put, List.setIfInBounds_toArray, List.set_cons_zero, List.set_cons_succ, i64_w, i32_w, IntKind.wrap_u8, IntKind.wrap_u32]
                              rfl
                            refine pure_ (i := 12) (N := some 82) (v := ?_) (a' := ?_) #[true, true, true, true, true, true, true, true, true, true, true, true, true, false, false] rfl rfl (any_of HT_.out (by kernel_rfl)) (fun _ _ _ h => h) (Or.inl ⟨by rfl, ?_⟩) ?_ ?_
                            rotate_left
                            · intro w'
                              go_simp
                              with_reducible rfl
                            rotate_left
                            · simp only [Act.put, List.setIfInBounds_toArray, List.set_cons_zero, List.set_cons_succ, i64_w, i32_w, IntKind.wrap_u8, IntKind.wrap_u32]
                              rfl
                            refine pure_ (i := 13) (N := some 83) (v := ?_) (a' := ?_) #[true, true, true, true, true, true, true, true, true, true, true, true, true, true, false] rfl rfl (any_of HT_.out (by kernel_rfl)) (fun _ _ _ h => h) (Or.inl ⟨by rfl, ?_⟩) ?_ ?_
                            rotate_left
                            · intro w'
                              go_simp
                              with_reducible rfl
                            rotate_left
                            · simp only [Act.put, List.setIfInBounds_toArray, List.set_cons_zero, List.set_cons_succ, i64_w, i32_w, IntKind.wrap_u8, IntKind.wrap_u32]
                              rfl
                            refine pure_ (i := 14) (N := some 84) (v := ?_) (a' := ?_) #[true, true, true, true, true, true, true, true, true, true, true, true, true, true, true] rfl rfl (any_of HT_.out (by kernel_rfl)) (fun _ _ _ h => h) (Or.inl ⟨by rfl, ?_⟩) ?_ ?_
                            rotate_left
                            · intro w'
                              go_simp
                              with_reducible rfl
                            rotate_left
                            · simp only [Act.put, List.setIfInBounds_toArray, List.set_cons_zero, List.set_cons_succ, i64_w, i32_w, IntKind.wrap_u8, IntKind.wrap_u32]
                              rfl
                            refine done_ (done_of HT_.out (by kernel_rfl)) ?_
                            try go_wp2
                            go_roundg k2
                            case measure => have := HK1.out; have := HK2.out; omega
                            case rel => exact ⟨(wrap64 (x11_2 + 1)), (t396), (t397), (by first | rfl | (simp; done) | (simp [*]; done)), H', ⟨by have := HK1.out; have := HK2.out; omega⟩, ⟨by (with_reducible repeat (first | apply Kd.R_alloc | apply Kd.R_drewN | apply Kd.R_drew)); exact HO_379000.out⟩, ⟨by (with_reducible repeat (first | refine blk_drewN ?_ _ | refine blk_drew ?_ | refine blk_alloc ?_ _)); exact BK378.out⟩, ⟨by (with_reducible repeat (first | refine blk_drewN ?_ _ | refine blk_drew ?_ | refine blk_alloc ?_ _)); exact BK392.out⟩, ⟨by repeat (first | (with_reducible first | exact HB.out | apply below_alloc | apply pw_below_drewN | apply below_drew1 | refine below_set ?_ GE378.out | refine below_set ?_ GE392.out) | exact HB.out)⟩⟩
                          · rw [if_neg c32] at H
                            exact absurd H (by simp)
                        · rw [if_neg c30] at H
                          exact absurd H (by simp)
                      · rw [if_neg c29] at H
                        exact absurd H (by simp)
                    · rw [if_neg c28] at H
                      have c28b0 : (t398 == 0) = false := beq_eq_false_iff_ne.mpr c28
                      have c28b1 : (t398 != 0) = true := bne_iff_ne.mpr c28
                      exact absurd H (by simp)
                  · rw [if_neg c25] at H
                    exact absurd H (by simp)
                · rw [if_neg c24] at H
                  exact absurd H (by simp)
              · rw [if_neg c23] at H
                have c23b0 : decide (x11_2 < ji6) = false := decide_eq_false c23
                clear c23
                replace H := Option.bind_eq_some_iff.mp H
                obtain ⟨⟨t400, t401, t402⟩, A350, H⟩ := H
                replace H : ((bits_Writer_Len.f t388 t391).bind fun bt403 => (if t400 = bt403.1 then ((bits_Writer_Text.f bt403.2.1 bt403.2.2).bind fun bt408 => ((bits_Writer_Len.f bt408.2.1 bt408.2.2).bind fun bt413 => (some ((bt408.1.size : Int) == (wrap64 (Int.tdiv (wrap64 (bt413.1 + 7)) 8)))))) else (none))) = some r := H
                have A35 := Aside0.mk A350
                clear A350
                replace H := Option.bind_eq_some_iff.mp H
                obtain ⟨⟨t403, t404, t407⟩, A360, H⟩ := H
                replace H : (if t400 = t403 then ((bits_Writer_Text.f t404 t407).bind fun bt408 => ((bits_Writer_Len.f bt408.2.1 bt408.2.2).bind fun bt413 => (some ((bt408.1.size : Int) == (wrap64 (Int.tdiv (wrap64 (bt413.1 + 7)) 8)))))) else (none)) = some r := H
                have A36 := Aside0.mk A360
                clear A360
                by_cases c37 : t400 = t403
                · rw [if_pos c37] at H
                  have c37b0 : (t400 == t403) = true := beq_iff_eq.mpr c37
                  have c37b1 : (t400 != t403) = false := bne_eq_false_iff_eq.mpr c37
                  clear c37
                  replace H := Option.bind_eq_some_iff.mp H
                  obtain ⟨⟨t408, t409, t412⟩, A380, H⟩ := H
                  replace H : ((bits_Writer_Len.f t409 t412).bind fun bt413 => (some ((t408.size : Int) == (wrap64 (Int.tdiv (wrap64 (bt413.1 + 7)) 8))))) = some r := H
                  have A38 := Aside0.mk A380
                  clear A380
                  replace H := Option.bind_eq_some_iff.mp H
                  obtain ⟨⟨t413, t414, t417⟩, A390, H⟩ := H
                  replace H : (some ((t408.size : Int) == (wrap64 (Int.tdiv (wrap64 (t413 + 7)) 8)))) = some r := H
                  have A39 := Aside0.mk A390
                  clear A390
                  obtain rfl := Option.some.inj H
                  go_wp2_with (first | ((with_reducible refine gate_callee (f := 50) rfl ?_); refine goesL_ (some 86) rfl rfl Try.func50 (by kernel_rfl) rfl #[.pointer (some ⟨gb392, 0, none⟩)] rfl (by (try simp only [List.map_toArray, List.map_cons, List.map_nil]); first | done | rfl | (simp only [List.length_drop, List.length_take]; rfl)) ?_; (with_reducible refine (bits_Reader_At.calls (fun k_ => some k_ = (.slice none 0 0 : Value).ownBlock ∨ k_ = gb392) gb392 x393000_2 x393001_2 t400 t401 t402 w _ ?side1 ?side2 A35.out).mono ?_); (case side1 => repeat (first | (with_reducible first | exact HB.out | apply below_alloc | apply pw_below_drewN | apply below_drew1 | refine below_set ?_ GE378.out | refine below_set ?_ GE392.out) | exact HB.out)); (case side2 => exact ⟨(by (with_reducible repeat (first | refine blk_drewN ?_ _ | refine blk_drew ?_ | refine blk_alloc ?_ _)); exact BK392.out), GE392.out, .inr rfl⟩); rintro e w40 ⟨rfl, ⟨hbx_, _, _⟩, hb, hkp⟩; refine ⟨_, rfl, ?_⟩; have n0_ := Aside0.mk (Kd.R_mono (ok' := fun k_ => True) (Kd.R_keptB ((Kd.R_types HO_379000.out (by (with_reducible repeat (first | refine blk_drewN ?_ _ | refine blk_drew ?_ | refine blk_alloc ?_ _)); exact BK392.out) (by decide))) hkp (fun k_ hk_ hs_ => Or.elim hs_ (fun hs_ => (fun e_ => by simp [Value.ownBlock] at e_) hs_) (fun e_ => (hk_.2) e_))) (fun k_ hk_ => trivial)); have n1_ := Aside0.mk (blk_kept (by (with_reducible repeat (first | refine blk_drewN ?_ _ | refine blk_drew ?_ | refine blk_alloc ?_ _)); exact BK378.out) hkp (fun hs_ => Or.elim hs_ (fun hs_ => (fun e_ => by simp [Value.ownBlock] at e_) hs_) (fun e_ => NB378_392.out e_))); have n2_ := Aside0.mk (hbx_); have n3_ := Aside0.mk (hb); clear HO_379000; clear BK378; clear BK392; clear HB; have HO_379000 := n0_; have BK378 := n1_; have BK392 := n2_; have HB := n3_; clear n0_ n1_ n2_ n3_; (try clear hb); (try clear hkp); (try clear hbx_); (try clear hox_)) | ((with_reducible refine gate_callee (f := 42) rfl ?_); refine goesL_ (some 88) rfl rfl Try.func42 (by kernel_rfl) rfl #[.pointer (some ⟨gb378, 0, none⟩)] rfl (by (try simp only [List.map_toArray, List.map_cons, List.map_nil]); first | done | rfl | (simp only [List.length_drop, List.length_take]; rfl)) ?_; (with_reducible refine (bits_Writer_Len.calls (fun k_ => some k_ = (v389 : Value).ownBlock ∨ k_ = gb378) gb378 t388 t391 t403 t404 t407 w _ ?side1 ?side2 A36.out).mono ?_); (case side1 => repeat (first | (with_reducible first | exact HB.out | apply below_alloc | apply pw_below_drewN | apply below_drew1 | refine below_set ?_ GE378.out | refine below_set ?_ GE392.out) | exact HB.out)); (case side2 => exact ⟨_, (by (with_reducible repeat (first | refine blk_drewN ?_ _ | refine blk_drew ?_ | refine blk_alloc ?_ _)); exact BK378.out), GE378.out, .inr rfl, (Kd.R_mono (Kd.R_tight2 rfl (Kd.R_types HO_379000.out (by (with_reducible repeat (first | refine blk_drewN ?_ _ | refine blk_drew ?_ | refine blk_alloc ?_ _)); exact BK378.out) (by decide))) (fun k_ hk => ⟨.inl hk.1, hk.2.2⟩))⟩); rintro e w41 ⟨rfl, ⟨v405, hbx_, _, _, hox_⟩, hb, hkp⟩; refine ⟨_, rfl, ?_⟩; have ho0 := Kd.R_mono (ok' := fun k_ => some k_ = (v389 : Value).ownBlock ∨ w40.heap.size ≤ k_) hox_ (fun k_ h_ => Or.elim h_.1 (fun h1_ => Or.elim h1_ Or.inl (fun e_ => absurd e_ h_.2)) Or.inr); have n0_ := Aside0.mk (hbx_); have n1_ := Aside0.mk (blk_kept (by (with_reducible repeat (first | refine blk_drewN ?_ _ | refine blk_drew ?_ | refine blk_alloc ?_ _)); exact BK392.out) hkp (fun hs_ => Or.elim hs_ (fun hs_ => (fun e_ => (Kd.R_ne HO_379000.out BK392.out (by decide)) e_) hs_) (fun e_ => NB392_378.out e_))); have n2_ := Aside0.mk (Kd.R_mono (ok' := fun k_ => True) ho0 (fun k_ hk_ => trivial)); have n3_ := Aside0.mk (hb); clear BK378; clear BK392; clear HB; clear HO_379000; have BK378 := n0_; have BK392 := n1_; have HO406 := n2_; have HB := n3_; clear n0_ n1_ n2_ n3_; (try clear hb); (try clear hkp); (try clear hbx_); (try clear hox_); (try clear ho0)) | (go_at_call 44; (with_reducible refine (bits_Writer_Text.calls (fun k_ => some k_ = (v405 : Value).ownBlock ∨ k_ = gb378) gb378 t404 t407 t408 t409 t412 w _ ?side1 ?side2 A38.out).mono ?_); (case side1 => repeat (first | (with_reducible first | exact HB.out | apply below_alloc | apply pw_below_drewN | apply below_drew1 | refine below_set ?_ GE378.out | refine below_set ?_ GE392.out) | exact HB.out)); (case side2 => exact ⟨_, (by (with_reducible repeat (first | refine blk_drewN ?_ _ | refine blk_drew ?_ | refine blk_alloc ?_ _)); exact BK378.out), GE378.out, .inr rfl, (Kd.R_mono (Kd.R_tight2 rfl (Kd.R_types HO406.out (by (with_reducible repeat (first | refine blk_drewN ?_ _ | refine blk_drew ?_ | refine blk_alloc ?_ _)); exact BK378.out) (by decide))) (fun k_ hk => ⟨.inl hk.1, hk.2.2⟩))⟩); rintro e w42 ⟨rfl, ⟨v410, hbx_, _, _, hox_⟩, hb, hkp⟩; have ho0 := Kd.R_mono (ok' := fun k_ => some k_ = (v405 : Value).ownBlock ∨ w41.heap.size ≤ k_) hox_ (fun k_ h_ => Or.elim h_.1 (fun h1_ => Or.elim h1_ Or.inl (fun e_ => absurd e_ h_.2)) Or.inr); have n0_ := Aside0.mk (hbx_); have n1_ := Aside0.mk (blk_kept (by (with_reducible repeat (first | refine blk_drewN ?_ _ | refine blk_drew ?_ | refine blk_alloc ?_ _)); exact BK392.out) hkp (fun hs_ => Or.elim hs_ (fun hs_ => (fun e_ => (Kd.R_ne HO406.out BK392.out (by decide)) e_) hs_) (fun e_ => NB392_378.out e_))); have n2_ := Aside0.mk (Kd.R_mono (ok' := fun k_ => True) ho0 (fun k_ hk_ => trivial)); have n3_ := Aside0.mk (hb); clear BK378; clear BK392; clear HB; clear HO406; have BK378 := n0_; have BK392 := n1_; have HO411 := n2_; have HB := n3_; clear n0_ n1_ n2_ n3_; (try clear hb); (try clear hkp); (try clear hbx_); (try clear hox_); (try clear ho0)) | (go_at_call 42; (with_reducible refine (bits_Writer_Len.calls (fun k_ => some k_ = (v410 : Value).ownBlock ∨ k_ = gb378) gb378 t409 t412 t413 t414 t417 w _ ?side1 ?side2 A39.out).mono ?_); (case side1 => repeat (first | (with_reducible first | exact HB.out | apply below_alloc | apply pw_below_drewN | apply below_drew1 | refine below_set ?_ GE378.out | refine below_set ?_ GE392.out) | exact HB.out)); (case side2 => exact ⟨_, (by (with_reducible repeat (first | refine blk_drewN ?_ _ | refine blk_drew ?_ | refine blk_alloc ?_ _)); exact BK378.out), GE378.out, .inr rfl, (Kd.R_mono (Kd.R_tight2 rfl (Kd.R_types HO411.out (by (with_reducible repeat (first | refine blk_drewN ?_ _ | refine blk_drew ?_ | refine blk_alloc ?_ _)); exact BK378.out) (by decide))) (fun k_ hk => ⟨.inl hk.1, hk.2.2⟩))⟩); rintro e w43 ⟨rfl, ⟨v415, hbx_, _, _, hox_⟩, hb, hkp⟩; have ho0 := Kd.R_mono (ok' := fun k_ => some k_ = (v410 : Value).ownBlock ∨ w42.heap.size ≤ k_) hox_ (fun k_ h_ => Or.elim h_.1 (fun h1_ => Or.elim h1_ Or.inl (fun e_ => absurd e_ h_.2)) Or.inr); have n0_ := Aside0.mk (hbx_); have n1_ := Aside0.mk (blk_kept (by (with_reducible repeat (first | refine blk_drewN ?_ _ | refine blk_drew ?_ | refine blk_alloc ?_ _)); exact BK392.out) hkp (fun hs_ => Or.elim hs_ (fun hs_ => (fun e_ => (Kd.R_ne HO411.out BK392.out (by decide)) e_) hs_) (fun e_ => NB392_378.out e_))); have n2_ := Aside0.mk (Kd.R_mono (ok' := fun k_ => True) ho0 (fun k_ hk_ => trivial)); have n3_ := Aside0.mk (hb); clear BK378; clear BK392; clear HB; clear HO411; have BK378 := n0_; have BK392 := n1_; have HO416 := n2_; have HB := n3_; clear n0_ n1_ n2_ n3_; (try clear hb); (try clear hkp); (try clear hbx_); (try clear hox_); (try clear ho0)))
                  go_ret
                  exact ⟨by first | rfl | (simp [errW_none, errW_some] <;> rfl) | (simp only [← hji5, ← hji6]; first | rfl | (simp [errW_none, errW_some] <;> rfl)) | (simp [*, errW_none, errW_some] <;> rfl), by repeat (first | (with_reducible first | exact HB.out | apply below_alloc | apply pw_below_drewN | apply below_drew1 | refine below_set ?_ GE378.out | refine below_set ?_ GE392.out) | exact HB.out)⟩
                · rw [if_neg c37] at H
                  exact absurd H (by simp)
  · replace c4 := Bool.eq_false_iff.mpr c4
    subst c4
    have H1 : (none) = some r := by rw [if_neg (show ¬ (false = true) by decide)] at H; exact H
    clear H
    have H := H1
    clear H1
    exact absurd H (by simp)

/-- THE ONE PURE STATEMENT of portagelaw1_WriteBack: yours. -/
def portagelaw1_WriteBack.Pure : Prop := ∀ (l0 : List Int) (l1 : List Int), l0.length ≤ maxLen → l0.length * 8 ≤ 140737488351232 → (∀ x ∈ l0, (Lit.int .i64 x).wf = true) → l1.length ≤ maxLen → l1.length * 8 ≤ 140737488351232 → (∀ x ∈ l1, (Lit.int .i64 x).wf = true) → ∃ k, portagelaw1_WriteBack.f k l0 l1 = some true
theorem portagelaw1_WriteBack.walk (P : portagelaw1_WriteBack.Pure) (a0 : Option Addr) (len0 cap0 : Nat) (z0 : List Int) (a1 : Option Addr) (len1 cap1 : Nat) (z1 : List Int) (w : World) (w0 : (a0 = none ∧ len0 = 0 ∧ cap0 = 0 ∧ z0 = []) ∨ ∃ x, a0 = some x ∧ len0 ≤ cap0 ∧ cap0 ≤ maxLen ∧ z0.length = cap0 ∧ (∀ i, i < z0.length → w.cell? (x.add i) = some (.int .i64 (z0.getD i 0))) ∧ ∀ n ∈ z0, (Lit.int .i64 n).wf = true) (y0 : len0 * 8 ≤ 140737488351232) (w1 : (a1 = none ∧ len1 = 0 ∧ cap1 = 0 ∧ z1 = []) ∨ ∃ x, a1 = some x ∧ len1 ≤ cap1 ∧ cap1 ≤ maxLen ∧ z1.length = cap1 ∧ (∀ i, i < z1.length → w.cell? (x.add i) = some (.int .i64 (z1.getD i 0))) ∧ ∀ n ∈ z1, (Lit.int .i64 n).wf = true) (y1 : len1 * 8 ≤ 140737488351232) :
    Calls Try.prog 10 #[.slice a0 len0 cap0, .slice a1 len1 cap1] w fun e w' => e = .returned (.bool true) ∧ Below w.heap.size w w' := by
  obtain ⟨l0, rfl, hr0, hm0, hw0, hc0⟩ := ReadsInt.ofRowC w0
  obtain ⟨l1, rfl, hr1, hm1, hw1, hc1⟩ := ReadsInt.ofRowC w1
  obtain ⟨k, h⟩ := P l0 l1 hm0 y0 hw0 hm1 y1 hw1
  refine (portagelaw1_WriteBack.calls k _ _ l0 _ _ l1 true w (Kd.C_of_reads (d := (0 : Int)) (h1 := fun _ => rfl) hr0) hc0 (Kd.C_of_reads (d := (0 : Int)) (h1 := fun _ => rfl) hr1) hc1 h).mono ?_
  rintro e w' ⟨rfl, hd⟩
  exact ⟨rfl, hd⟩

end Go.Proofs.Ytbifignggnfodaa.B
