-- Written by a program of this session out of the translation (a changed copy of the kit's printer).
import Derived.Test.YtneogampbohfnaaDoorZF0
import Derived.Test.YtneogampbohfnaaDoorZF8
namespace Go.Proofs.YtneogampbohfnaaDoor.ZF
open Go.Proofs.YtneogampbohfnaaDoor.ZB (S39 z39 k39 k39_open k39_openM k39_mk k39_mkM rd_T39 at_T39)
open Go.RowKit Go.Proofs.YtneogampbohfnaaDoorW.PrintWords Go.Proofs.YtneogampbohfnaaDoorW.PrintLast Go.Proofs.YtneogampbohfnaaDoorW.PrintMore
attribute [local go_sem] max2_int min2_int max_two min_two max_three min_three max_four min_four   -- for this text's walks alone
set_option linter.unusedVariables false
set_option linter.unusedSimpArgs false

/-! ### portagelaw0_SameEntries: function 59 -/
def portagelaw0_SameEntries.l0 : Nat → List (S39) → List (S39) → Int → Option (Bool)
  | 0, _, _, _ => none
  | k + 1, x0, x1, x5 => if x5 < (x0.length : Int) then (if 0 ≤ x5 then (if x5 < (x1.length : Int) then ((portagelaw0_SameEntry.f k ((rd_T39 x0 x5).f0) ((rd_T39 x0 x5).f1) ((rd_T39 x0 x5).f2) ((rd_T39 x0 x5).f3) ((rd_T39 x0 x5).f4) ((rd_T39 x0 x5).f5) ((rd_T39 x0 x5).f6) ((rd_T39 x0 x5).f7) ((rd_T39 x0 x5).f8) ((rd_T39 x1 x5).f0) ((rd_T39 x1 x5).f1) ((rd_T39 x1 x5).f2) ((rd_T39 x1 x5).f3) ((rd_T39 x1 x5).f4) ((rd_T39 x1 x5).f5) ((rd_T39 x1 x5).f6) ((rd_T39 x1 x5).f7) ((rd_T39 x1 x5).f8)).bind fun t234 => (if t234 = true then (portagelaw0_SameEntries.l0 k x0 x1 (wrap64 (x5 + 1))) else (some false))) else (none)) else (none)) else (some true)
def portagelaw0_SameEntries.f (k : Nat) (l0 : List (S39)) (l1 : List (S39)) : Option (Bool) := if (l0.length : Int) = (l1.length : Int) then (portagelaw0_SameEntries.l0 k l0 l1 0) else (some false)
theorem portagelaw0_SameEntries.mono_l : ∀ k, (∀ y0 y1 y2, LeO (portagelaw0_SameEntries.l0 k y0 y1 y2) (portagelaw0_SameEntries.l0 (k + 1) y0 y1 y2))
  | 0 => fun _ _ _ r h => by simp [portagelaw0_SameEntries.l0] at h
  | k + 1 => by
    have ih0 := portagelaw0_SameEntries.mono_l k
    · intro y0 y1 y2
      unfold portagelaw0_SameEntries.l0
      repeat' first
      | (with_reducible exact ih0 _ _ _)
      | (with_reducible exact portagelaw0_SameEntry.mono _ _ _ _ _ _ _ _ _ _ _ _ _ _ _ _ _ _ _)
      | (with_reducible exact LeO.refl _)
      | (with_reducible exact LeO.none _)
      | (with_reducible refine LeO.ite ?_ ?_)
      | (with_reducible refine LeO.bind ?_ (fun _ => ?_))
      | exact ih0 _ _ _
      | exact portagelaw0_SameEntry.mono _ _ _ _ _ _ _ _ _ _ _ _ _ _ _ _ _ _ _
      | exact LeO.none _
      | refine LeO.ite ?_ ?_
      | refine LeO.bind ?_ (fun _ => ?_)
theorem portagelaw0_SameEntries.mono : ∀ a0 a1 k, LeO (portagelaw0_SameEntries.f k a0 a1) (portagelaw0_SameEntries.f (k + 1) a0 a1) := by
  intro a0 a1 k
  have ih0 := portagelaw0_SameEntries.mono_l k
  unfold portagelaw0_SameEntries.f
  repeat' first
      | (with_reducible exact ih0 _ _ _)
      | (with_reducible exact portagelaw0_SameEntry.mono _ _ _ _ _ _ _ _ _ _ _ _ _ _ _ _ _ _ _)
      | (with_reducible exact LeO.refl _)
      | (with_reducible exact LeO.none _)
      | (with_reducible refine LeO.ite ?_ ?_)
      | (with_reducible refine LeO.bind ?_ (fun _ => ?_))
      | exact ih0 _ _ _
      | exact portagelaw0_SameEntry.mono _ _ _ _ _ _ _ _ _ _ _ _ _ _ _ _ _ _ _
      | exact LeO.none _
      | refine LeO.ite ?_ ?_
      | refine LeO.bind ?_ (fun _ => ?_)
def portagelaw0_SameEntries.T6 : Bool × List (List Nat × List Nat) := (true, [([], []), ([], []), ([0, 1], [0, 1]), ([2], [2]), ([], []), ([], []), ([4, 5], [4, 5]), ([6], [6]), ([3, 7], [3, 7]), ([8], [8])])
def portagelaw0_SameEntries.B6 : List Nat := [0, 0, 3, 7, 0, 0, 48, 112, 255, 511]
theorem portagelaw0_SameEntries.tab6 : rtab .any (opsOf Tryd.f59 6) = portagelaw0_SameEntries.T6 := by kernel_rfl
theorem portagelaw0_SameEntries.bits6 : waitsOk portagelaw0_SameEntries.T6.2 portagelaw0_SameEntries.B6 = true := by kernel_rfl
set_option maxHeartbeats 8000000 in
set_option maxRecDepth 100000 in
theorem portagelaw0_SameEntries.calls (k : Nat) (A0 : Option Addr) (c0 : Nat) (l0 : List (S39)) (A1 : Option Addr) (c1 : Nat) (l1 : List (S39)) (r : Bool) (w : World) (hr0 : Kd.C k39 w A0 l0.length l0) (hc0 : l0.length ≤ c0) (hr1 : Kd.C k39 w A1 l1.length l1) (hc1 : l1.length ≤ c1) (h : portagelaw0_SameEntries.f k l0 l1 = some r) :
    Calls Tryd.prog 59 #[.slice A0 l0.length c0, .slice A1 l1.length c1] w fun e w' => e = .returned (.bool r) ∧ Below w.heap.size w w' := by
  have hu39 := Tryd.underlying39
  have HR0 := Aside0.mk hr0
  have HC0 := Aside0.mk hc0
  clear hr0 hc0
  have HR1 := Aside0.mk hr1
  have HC1 := Aside0.mk hc1
  clear hr1 hc1
  have HB := Aside0.mk (Below.refl w.heap.size w)
  have H : (if (l0.length : Int) = (l1.length : Int) then (portagelaw0_SameEntries.l0 k l0 l1 0) else (some false)) = some r := h
  clear h
  by_cases c3 : (l0.length : Int) = (l1.length : Int)
  · rw [if_pos c3] at H
    have c3b0 : ((l0.length : Int) == (l1.length : Int)) = true := beq_iff_eq.mpr c3
    have c3b1 : ((l0.length : Int) != (l1.length : Int)) = false := bne_eq_false_iff_eq.mpr c3
    have c3b2 : (l0.length == l1.length) = true := by first | simpa using c3 | (simp at c3 ⊢; omega)
    clear c3
    have H' := Aside0.mk H
    clear H
    go_enter Tryd.func59, Tryd.ntmps59
    go_wp2
    go_loopg [5] k (fun kq v5 w' => ∃ (x5_1 : Int), v5 = .int .i64 x5_1 ∧ Aside0 (portagelaw0_SameEntries.l0 kq l0 l1 x5_1 = some r) ∧ Aside0 (kq ≤ k) ∧ Aside0 (Below w.heap.size w w'))
    case atStart => exact ⟨(0), (by first | rfl | (simp; done) | (simp [*]; done)), H', ⟨Nat.le_refl _⟩, ⟨by repeat (first | (with_reducible first | exact HB.out | apply below_alloc | apply pw_below_drewN | apply below_drew1) | exact HB.out)⟩⟩
    case round =>
      clear H'
      try clear c1
      try clear p2
      try clear c3
      try clear c3b0
      try clear c3b1
      try clear c3b2
      obtain ⟨x5_1, rfl, HA, HK1, HB⟩ := hrel
      cases gk with
      | zero => exact absurd HA.out (by simp [portagelaw0_SameEntries.l0])
      | succ k1 =>
        have H := HA.out
        clear HA
        simp only [portagelaw0_SameEntries.l0] at H
        by_cases c4 : x5_1 < (l0.length : Int)
        · rw [if_pos c4] at H
          have c4b0 : decide (x5_1 < (l0.length : Int)) = true := decide_eq_true c4
          clear c4
          by_cases c5 : 0 ≤ x5_1
          · rw [if_pos c5] at H
            have c5b0 : decide (0 ≤ x5_1) = true := decide_eq_true c5
            clear c5
            by_cases c6 : x5_1 < (l1.length : Int)
            · rw [if_pos c6] at H
              have c6b0 : decide (x5_1 < (l1.length : Int)) = true := decide_eq_true c6
              clear c6
              replace H := Option.bind_eq_some_iff.mp H
              obtain ⟨t234, A70, H⟩ := H
              replace H : (if t234 = true then (portagelaw0_SameEntries.l0 k1 l0 l1 (wrap64 (x5_1 + 1))) else (some false)) = some r := H
              have A7 := Aside0.mk A70
              clear A70
              by_cases c8 : t234 = true
              · subst c8
                have H1 : (portagelaw0_SameEntries.l0 k1 l0 l1 (wrap64 (x5_1 + 1))) = some r := by rw [if_pos rfl] at H; exact H
                clear H
                have H := H1
                clear H1
                have H' := Aside0.mk H
                clear H
                try go_wp2
                have n0_ := Aside0.mk (below_drew1 HB.out)
                clear HB
                have HB := n0_
                clear n0_
                have p232 : 0 ≤ (x5_1 : Int) := of_decide_eq_true (by first | (with_reducible assumption) | assumption)
                have q232 : x5_1 < (l0.length : Int) := of_decide_eq_true (by first | (with_reducible assumption) | assumption)
                obtain ⟨ad232, A232_2, c232_2, e232, hx232_0, hx232_1, hx232_2, hx232_3, hx232_4, hx232_5, hx232_6, hx232_7, hx232_8, hl232_2, hi232_2⟩ := at_T39 HR0.out x5_1 p232 q232
                have hw232_8 := hx232_8
                have hw232_7 := hx232_7
                have hw232_6 := hx232_6
                have hw232_5 := hx232_5
                have hw232_4 := hx232_4
                have hw232_3 := hx232_3
                have hw232_2 := hx232_2
                have hw232_1 := hx232_1
                have hw232_0 := hx232_0
                cases e232
                replace hx232_0 := (HB.out.cell (World.block_lt_of_cell? w _ hx232_0)).trans hx232_0
                replace hx232_1 := (HB.out.cell (World.block_lt_of_cell? w _ hx232_1)).trans hx232_1
                replace hx232_2 := (HB.out.cell (World.block_lt_of_cell? w _ hx232_2)).trans hx232_2
                replace hx232_3 := (HB.out.cell (World.block_lt_of_cell? w _ hx232_3)).trans hx232_3
                replace hx232_4 := (HB.out.cell (World.block_lt_of_cell? w _ hx232_4)).trans hx232_4
                replace hx232_5 := (HB.out.cell (World.block_lt_of_cell? w _ hx232_5)).trans hx232_5
                replace hx232_6 := (HB.out.cell (World.block_lt_of_cell? w _ hx232_6)).trans hx232_6
                replace hx232_7 := (HB.out.cell (World.block_lt_of_cell? w _ hx232_7)).trans hx232_7
                replace hx232_8 := (HB.out.cell (World.block_lt_of_cell? w _ hx232_8)).trans hx232_8
                have HR232_2 := Aside0.mk hi232_2
                have HC232_2 := Aside0.mk hl232_2
                clear hi232_2 hl232_2
                replace p232 := eq_true p232
                replace q232 := eq_true q232
                have p233 : 0 ≤ (x5_1 : Int) := of_decide_eq_true (by first | (with_reducible assumption) | assumption)
                have q233 : x5_1 < (l1.length : Int) := of_decide_eq_true (by first | (with_reducible assumption) | assumption)
                obtain ⟨ad233, A233_2, c233_2, e233, hx233_0, hx233_1, hx233_2, hx233_3, hx233_4, hx233_5, hx233_6, hx233_7, hx233_8, hl233_2, hi233_2⟩ := at_T39 HR1.out x5_1 p233 q233
                have hw233_8 := hx233_8
                have hw233_7 := hx233_7
                have hw233_6 := hx233_6
                have hw233_5 := hx233_5
                have hw233_4 := hx233_4
                have hw233_3 := hx233_3
                have hw233_2 := hx233_2
                have hw233_1 := hx233_1
                have hw233_0 := hx233_0
                cases e233
                replace hx233_0 := (HB.out.cell (World.block_lt_of_cell? w _ hx233_0)).trans hx233_0
                replace hx233_1 := (HB.out.cell (World.block_lt_of_cell? w _ hx233_1)).trans hx233_1
                replace hx233_2 := (HB.out.cell (World.block_lt_of_cell? w _ hx233_2)).trans hx233_2
                replace hx233_3 := (HB.out.cell (World.block_lt_of_cell? w _ hx233_3)).trans hx233_3
                replace hx233_4 := (HB.out.cell (World.block_lt_of_cell? w _ hx233_4)).trans hx233_4
                replace hx233_5 := (HB.out.cell (World.block_lt_of_cell? w _ hx233_5)).trans hx233_5
                replace hx233_6 := (HB.out.cell (World.block_lt_of_cell? w _ hx233_6)).trans hx233_6
                replace hx233_7 := (HB.out.cell (World.block_lt_of_cell? w _ hx233_7)).trans hx233_7
                replace hx233_8 := (HB.out.cell (World.block_lt_of_cell? w _ hx233_8)).trans hx233_8
                have HR233_2 := Aside0.mk hi233_2
                have HC233_2 := Aside0.mk hl233_2
                clear hi233_2 hl233_2
                replace p233 := eq_true p233
                replace q233 := eq_true q233
                refine start_ (n := 10) (S := fun w' => w'.cell? (ad232.add ((x5_1).toNat * 9)) = some (.string ((rd_T39 l0 x5_1).f0)) ∧ w'.cell? ⟨(ad232.add ((x5_1).toNat * 9)).block, (ad232.add ((x5_1).toNat * 9)).off + 1, none⟩ = some (.bool ((rd_T39 l0 x5_1).f1)) ∧ w'.cell? ⟨(ad232.add ((x5_1).toNat * 9)).block, (ad232.add ((x5_1).toNat * 9)).off + 2, none⟩ = some (.slice A232_2 ((rd_T39 l0 x5_1).f2).length c232_2) ∧ w'.cell? ⟨(ad232.add ((x5_1).toNat * 9)).block, (ad232.add ((x5_1).toNat * 9)).off + 3, none⟩ = some (.int .i64 ((rd_T39 l0 x5_1).f3)) ∧ w'.cell? ⟨(ad232.add ((x5_1).toNat * 9)).block, (ad232.add ((x5_1).toNat * 9)).off + 4, none⟩ = some (.int .i64 ((rd_T39 l0 x5_1).f4)) ∧ w'.cell? ⟨(ad232.add ((x5_1).toNat * 9)).block, (ad232.add ((x5_1).toNat * 9)).off + 5, none⟩ = some (.int .i64 ((rd_T39 l0 x5_1).f5)) ∧ w'.cell? ⟨(ad232.add ((x5_1).toNat * 9)).block, (ad232.add ((x5_1).toNat * 9)).off + 6, none⟩ = some (.string ((rd_T39 l0 x5_1).f6)) ∧ w'.cell? ⟨(ad232.add ((x5_1).toNat * 9)).block, (ad232.add ((x5_1).toNat * 9)).off + 7, none⟩ = some (.int .i64 ((rd_T39 l0 x5_1).f7)) ∧ w'.cell? ⟨(ad232.add ((x5_1).toNat * 9)).block, (ad232.add ((x5_1).toNat * 9)).off + 8, none⟩ = some (.int .i64 ((rd_T39 l0 x5_1).f8)) ∧ w'.cell? (ad233.add ((x5_1).toNat * 9)) = some (.string ((rd_T39 l1 x5_1).f0)) ∧ w'.cell? ⟨(ad233.add ((x5_1).toNat * 9)).block, (ad233.add ((x5_1).toNat * 9)).off + 1, none⟩ = some (.bool ((rd_T39 l1 x5_1).f1)) ∧ w'.cell? ⟨(ad233.add ((x5_1).toNat * 9)).block, (ad233.add ((x5_1).toNat * 9)).off + 2, none⟩ = some (.slice A233_2 ((rd_T39 l1 x5_1).f2).length c233_2) ∧ w'.cell? ⟨(ad233.add ((x5_1).toNat * 9)).block, (ad233.add ((x5_1).toNat * 9)).off + 3, none⟩ = some (.int .i64 ((rd_T39 l1 x5_1).f3)) ∧ w'.cell? ⟨(ad233.add ((x5_1).toNat * 9)).block, (ad233.add ((x5_1).toNat * 9)).off + 4, none⟩ = some (.int .i64 ((rd_T39 l1 x5_1).f4)) ∧ w'.cell? ⟨(ad233.add ((x5_1).toNat * 9)).block, (ad233.add ((x5_1).toNat * 9)).off + 5, none⟩ = some (.int .i64 ((rd_T39 l1 x5_1).f5)) ∧ w'.cell? ⟨(ad233.add ((x5_1).toNat * 9)).block, (ad233.add ((x5_1).toNat * 9)).off + 6, none⟩ = some (.string ((rd_T39 l1 x5_1).f6)) ∧ w'.cell? ⟨(ad233.add ((x5_1).toNat * 9)).block, (ad233.add ((x5_1).toNat * 9)).off + 7, none⟩ = some (.int .i64 ((rd_T39 l1 x5_1).f7)) ∧ w'.cell? ⟨(ad233.add ((x5_1).toNat * 9)).block, (ad233.add ((x5_1).toNat * 9)).off + 8, none⟩ = some (.int .i64 ((rd_T39 l1 x5_1).f8))) (ds := []) #[false, false, false, false, false, false, false, false, false, false] (by kernel_rfl) rfl rfl ⟨((HB.out.cell (World.block_lt_of_cell? w _ hw232_0)).trans hw232_0), ((HB.out.cell (World.block_lt_of_cell? w _ hw232_1)).trans hw232_1), ((HB.out.cell (World.block_lt_of_cell? w _ hw232_2)).trans hw232_2), ((HB.out.cell (World.block_lt_of_cell? w _ hw232_3)).trans hw232_3), ((HB.out.cell (World.block_lt_of_cell? w _ hw232_4)).trans hw232_4), ((HB.out.cell (World.block_lt_of_cell? w _ hw232_5)).trans hw232_5), ((HB.out.cell (World.block_lt_of_cell? w _ hw232_6)).trans hw232_6), ((HB.out.cell (World.block_lt_of_cell? w _ hw232_7)).trans hw232_7), ((HB.out.cell (World.block_lt_of_cell? w _ hw232_8)).trans hw232_8), ((HB.out.cell (World.block_lt_of_cell? w _ hw233_0)).trans hw233_0), ((HB.out.cell (World.block_lt_of_cell? w _ hw233_1)).trans hw233_1), ((HB.out.cell (World.block_lt_of_cell? w _ hw233_2)).trans hw233_2), ((HB.out.cell (World.block_lt_of_cell? w _ hw233_3)).trans hw233_3), ((HB.out.cell (World.block_lt_of_cell? w _ hw233_4)).trans hw233_4), ((HB.out.cell (World.block_lt_of_cell? w _ hw233_5)).trans hw233_5), ((HB.out.cell (World.block_lt_of_cell? w _ hw233_6)).trans hw233_6), ((HB.out.cell (World.block_lt_of_cell? w _ hw233_7)).trans hw233_7), ((HB.out.cell (World.block_lt_of_cell? w _ hw233_8)).trans hw233_8)⟩ (fun hHeld => ?_); refine with_tabW portagelaw0_SameEntries.tab6 portagelaw0_SameEntries.bits6 (fun HT_ HW_ => ?_)
                generalize wr.drew = w9 at HB HR232_2 HR233_2 hx232_0 hx232_1 hx232_2 hx232_3 hx232_4 hx232_5 hx232_6 hx232_7 hx232_8 hx233_0 hx233_1 hx233_2 hx233_3 hx233_4 hx233_5 hx233_6 hx233_7 hx233_8 hHeld ⊢
                refine pure_ (i := 0) (N := some 17) (v := ?_) (a' := ?_) #[true, false, false, false, false, false, false, false, false, false] rfl rfl (any_of HT_.out (by kernel_rfl)) (fun _ _ _ h => h) (Or.inl ⟨by rfl, ?_⟩) ?_ ?_
                rotate_left
                · intro w'
                  go_simp
                  with_reducible rfl
                rotate_left
                · simp only [Act.put, List.setIfInBounds_toArray, List.set_cons_zero, List.set_cons_succ, i64_w, i32_w, IntKind.wrap_u8, IntKind.wrap_u32]
                  rfl
                refine pure_ (i := 1) (N := some 18) (v := ?_) (a' := ?_) #[true, true, false, false, false, false, false, false, false, false] rfl rfl (any_of HT_.out (by kernel_rfl)) (fun _ _ _ h => h) (Or.inl ⟨by rfl, ?_⟩) ?_ ?_
                rotate_left
                · intro w'
                  go_simp
                  with_reducible rfl
                rotate_left
                · simp only [Act.put, List.setIfInBounds_toArray, List.set_cons_zero, List.set_cons_succ, i64_w, i32_w, IntKind.wrap_u8, IntKind.wrap_u32]
                  rfl
                refine pure_ (i := 2) (N := some 19) (v := ?_) (a' := ?_) #[true, true, true, false, false, false, false, false, false, false] rfl rfl (any_of HT_.out (by kernel_rfl)) (fun _ _ _ h => h) (Or.inl ⟨by rfl, ?_⟩) ?_ ?_
                rotate_left
                · intro w'
                  go_simp
                  with_reducible rfl
                rotate_left
                · simp only [Act.put, List.setIfInBounds_toArray, List.set_cons_zero, List.set_cons_succ, i64_w, i32_w, IntKind.wrap_u8, IntKind.wrap_u32]
                  rfl
                refine pure_ (i := 4) (N := some 21) (v := ?_) (a' := ?_) #[true, true, true, false, true, false, false, false, false, false] rfl rfl (any_of HT_.out (by kernel_rfl)) (fun _ _ _ h => h) (Or.inl ⟨by rfl, ?_⟩) ?_ ?_
                rotate_left
                · intro w'
                  go_simp
                  with_reducible rfl
                rotate_left
                · simp only [Act.put, List.setIfInBounds_toArray, List.set_cons_zero, List.set_cons_succ, i64_w, i32_w, IntKind.wrap_u8, IntKind.wrap_u32]
                  rfl
                refine pure_ (i := 5) (N := some 22) (v := ?_) (a' := ?_) #[true, true, true, false, true, true, false, false, false, false] rfl rfl (any_of HT_.out (by kernel_rfl)) (fun _ _ _ h => h) (Or.inl ⟨by rfl, ?_⟩) ?_ ?_
                rotate_left
                · intro w'
                  go_simp
                  with_reducible rfl
                rotate_left
                · simp only [Act.put, List.setIfInBounds_toArray, List.set_cons_zero, List.set_cons_succ, i64_w, i32_w, IntKind.wrap_u8, IntKind.wrap_u32]
                  rfl
                refine pure_ (i := 6) (N := some 23) (v := ?_) (a' := ?_) #[true, true, true, false, true, true, true, false, false, false] rfl rfl (any_of HT_.out (by kernel_rfl)) (fun _ _ _ h => h) (Or.inl ⟨by rfl, ?_⟩) ?_ ?_
                rotate_left
                · intro w'
                  go_simp
                  with_reducible rfl
                rotate_left
                · simp only [Act.put, List.setIfInBounds_toArray, List.set_cons_zero, List.set_cons_succ, i64_w, i32_w, IntKind.wrap_u8, IntKind.wrap_u32]
                  rfl
                refine take_ (i := 3) (N := some 20) (v := ?_) (a' := ?_) #[true, true, true, true, true, true, true, false, false, false] rfl rfl (take_ofW HT_.out HW_.out (by kernel_rfl)) (fun _ _ _ h => h) (Or.inl ⟨by rfl, ?_⟩) hHeld ?_ ?_
                rotate_left
                · rintro w' ⟨s0, s1, s2, s3, s4, s5, s6, s7, s8, s9, s10, s11, s12, s13, s14, s15, s16, s17⟩
                  go_simp
                  with_reducible rfl
                rotate_left
                · simp only [Act.put, List.setIfInBounds_toArray, List.set_cons_zero, List.set_cons_succ, i64_w, i32_w, IntKind.wrap_u8, IntKind.wrap_u32]
                  rfl
                refine take_ (i := 7) (N := some 24) (v := ?_) (a' := ?_) #[true, true, true, true, true, true, true, true, false, false] rfl rfl (take_ofW HT_.out HW_.out (by kernel_rfl)) (fun _ _ _ h => h) (Or.inl ⟨by rfl, ?_⟩) hHeld ?_ ?_
                rotate_left
                · rintro w' ⟨s0, s1, s2, s3, s4, s5, s6, s7, s8, s9, s10, s11, s12, s13, s14, s15, s16, s17⟩
                  go_simp
                  with_reducible rfl
                rotate_left
                · simp only [Act.put, List.setIfInBounds_toArray, List.set_cons_zero, List.set_cons_succ, i64_w, i32_w, IntKind.wrap_u8, IntKind.wrap_u32]
                  rfl
                refine one_ (i := 8) (N := some 25) #[true, true, true, true, true, true, true, true, true, false] rfl rfl (one_of HT_.out (by kernel_rfl)) (by decide) (fun K hK => ?_)
                refine goes_ Tryd.func88 (by kernel_rfl) rfl #[.agg #[.string ((rd_T39 l0 x5_1).f0), .bool ((rd_T39 l0 x5_1).f1), .slice A232_2 ((rd_T39 l0 x5_1).f2).length c232_2, .int .i64 ((rd_T39 l0 x5_1).f3), .int .i64 ((rd_T39 l0 x5_1).f4), .int .i64 ((rd_T39 l0 x5_1).f5), .string ((rd_T39 l0 x5_1).f6), .int .i64 ((rd_T39 l0 x5_1).f7), .int .i64 ((rd_T39 l0 x5_1).f8)], .agg #[.string ((rd_T39 l1 x5_1).f0), .bool ((rd_T39 l1 x5_1).f1), .slice A233_2 ((rd_T39 l1 x5_1).f2).length c233_2, .int .i64 ((rd_T39 l1 x5_1).f3), .int .i64 ((rd_T39 l1 x5_1).f4), .int .i64 ((rd_T39 l1 x5_1).f5), .string ((rd_T39 l1 x5_1).f6), .int .i64 ((rd_T39 l1 x5_1).f7), .int .i64 ((rd_T39 l1 x5_1).f8)]] (by rfl) rfl rfl (by (try simp only [List.map_toArray, List.map_cons, List.map_nil]); first | done | rfl | (simp only [List.length_drop, List.length_take]; rfl)) ?_
                with_reducible refine (portagelaw0_SameEntry.calls k1 ((rd_T39 l0 x5_1).f0) ((rd_T39 l0 x5_1).f1) _ _ ((rd_T39 l0 x5_1).f2) ((rd_T39 l0 x5_1).f3) ((rd_T39 l0 x5_1).f4) ((rd_T39 l0 x5_1).f5) ((rd_T39 l0 x5_1).f6) ((rd_T39 l0 x5_1).f7) ((rd_T39 l0 x5_1).f8) ((rd_T39 l1 x5_1).f0) ((rd_T39 l1 x5_1).f1) _ _ ((rd_T39 l1 x5_1).f2) ((rd_T39 l1 x5_1).f3) ((rd_T39 l1 x5_1).f4) ((rd_T39 l1 x5_1).f5) ((rd_T39 l1 x5_1).f6) ((rd_T39 l1 x5_1).f7) ((rd_T39 l1 x5_1).f8) true _ ?side1 ?side2 ?side3 ?side4 A7.out).mono ?_
                (case side1 => repeat (first | exact (Kd.C_below HR232_2.out HB.out) | (with_reducible refine Kd.C_alloc ?_ _) | (with_reducible refine Kd.C_drewN ?_ _) | (with_reducible refine Kd.C_drew ?_)))
                (case side2 => exact HC232_2.out)
                (case side3 => repeat (first | exact (Kd.C_below HR233_2.out HB.out) | (with_reducible refine Kd.C_alloc ?_ _) | (with_reducible refine Kd.C_drewN ?_ _) | (with_reducible refine Kd.C_drew ?_)))
                (case side4 => exact HC233_2.out)
                rintro e w10 ⟨rfl, hb⟩
                refine ⟨_, rfl, ?_⟩
                have n0_ := Aside0.mk (below_step (by repeat (first | (with_reducible first | exact HB.out | apply below_alloc | apply pw_below_drewN | apply below_drew1) | exact HB.out)) hb)
                clear HB
                have HB := n0_
                clear n0_
                (try clear hb)
                (try clear hb2)
                (try clear hk)
                (try clear hi)
                refine hK.out _ _ ⟨((HB.out.cell (World.block_lt_of_cell? w _ hw232_0)).trans hw232_0), ((HB.out.cell (World.block_lt_of_cell? w _ hw232_1)).trans hw232_1), ((HB.out.cell (World.block_lt_of_cell? w _ hw232_2)).trans hw232_2), ((HB.out.cell (World.block_lt_of_cell? w _ hw232_3)).trans hw232_3), ((HB.out.cell (World.block_lt_of_cell? w _ hw232_4)).trans hw232_4), ((HB.out.cell (World.block_lt_of_cell? w _ hw232_5)).trans hw232_5), ((HB.out.cell (World.block_lt_of_cell? w _ hw232_6)).trans hw232_6), ((HB.out.cell (World.block_lt_of_cell? w _ hw232_7)).trans hw232_7), ((HB.out.cell (World.block_lt_of_cell? w _ hw232_8)).trans hw232_8), ((HB.out.cell (World.block_lt_of_cell? w _ hw233_0)).trans hw233_0), ((HB.out.cell (World.block_lt_of_cell? w _ hw233_1)).trans hw233_1), ((HB.out.cell (World.block_lt_of_cell? w _ hw233_2)).trans hw233_2), ((HB.out.cell (World.block_lt_of_cell? w _ hw233_3)).trans hw233_3), ((HB.out.cell (World.block_lt_of_cell? w _ hw233_4)).trans hw233_4), ((HB.out.cell (World.block_lt_of_cell? w _ hw233_5)).trans hw233_5), ((HB.out.cell (World.block_lt_of_cell? w _ hw233_6)).trans hw233_6), ((HB.out.cell (World.block_lt_of_cell? w _ hw233_7)).trans hw233_7), ((HB.out.cell (World.block_lt_of_cell? w _ hw233_8)).trans hw233_8)⟩ (fun hHeld => ?_)
                clear hK K
                refine norm_ (a' := ?_) ?_ ?_
                rotate_left
                · show Act.put _ (some 25) _ = _
                  simp only [Act.put, List.setIfInBounds_toArray, List.set_cons_zero, List.set_cons_succ, i64_w, i32_w, IntKind.wrap_u8, IntKind.wrap_u32]
                  rfl
                refine pure_ (i := 9) (N := some 26) (v := ?_) (a' := ?_) #[true, true, true, true, true, true, true, true, true, true] rfl rfl (any_of HT_.out (by kernel_rfl)) (fun _ _ _ h => h) (Or.inl ⟨by rfl, ?_⟩) ?_ ?_
                rotate_left
                · intro w'
                  go_simp
                  with_reducible rfl
                rotate_left
                · simp only [Act.put, List.setIfInBounds_toArray, List.set_cons_zero, List.set_cons_succ, i64_w, i32_w, IntKind.wrap_u8, IntKind.wrap_u32]
                  rfl
                refine done_ (done_of HT_.out (by kernel_rfl)) ?_
                try go_wp2
                go_roundg k1
                case measure => have := HK1.out; omega
                case rel => exact ⟨(wrap64 (x5_1 + 1)), (by first | rfl | (simp; done) | (simp [*]; done)), H', ⟨by have := HK1.out; omega⟩, ⟨by repeat (first | (with_reducible first | exact HB.out | apply below_alloc | apply pw_below_drewN | apply below_drew1) | exact HB.out)⟩⟩
              · replace c8 := Bool.eq_false_iff.mpr c8
                subst c8
                have H1 : (some false) = some r := by rw [if_neg (show ¬ (false = true) by decide)] at H; exact H
                clear H
                have H := H1
                clear H1
                obtain rfl := Option.some.inj H
                try go_wp2
                have n0_ := Aside0.mk (below_drew1 HB.out)
                clear HB
                have HB := n0_
                clear n0_
                have p232 : 0 ≤ (x5_1 : Int) := of_decide_eq_true (by first | (with_reducible assumption) | assumption)
                have q232 : x5_1 < (l0.length : Int) := of_decide_eq_true (by first | (with_reducible assumption) | assumption)
                obtain ⟨ad232, A232_2, c232_2, e232, hx232_0, hx232_1, hx232_2, hx232_3, hx232_4, hx232_5, hx232_6, hx232_7, hx232_8, hl232_2, hi232_2⟩ := at_T39 HR0.out x5_1 p232 q232
                have hw232_8 := hx232_8
                have hw232_7 := hx232_7
                have hw232_6 := hx232_6
                have hw232_5 := hx232_5
                have hw232_4 := hx232_4
                have hw232_3 := hx232_3
                have hw232_2 := hx232_2
                have hw232_1 := hx232_1
                have hw232_0 := hx232_0
                cases e232
                replace hx232_0 := (HB.out.cell (World.block_lt_of_cell? w _ hx232_0)).trans hx232_0
                replace hx232_1 := (HB.out.cell (World.block_lt_of_cell? w _ hx232_1)).trans hx232_1
                replace hx232_2 := (HB.out.cell (World.block_lt_of_cell? w _ hx232_2)).trans hx232_2
                replace hx232_3 := (HB.out.cell (World.block_lt_of_cell? w _ hx232_3)).trans hx232_3
                replace hx232_4 := (HB.out.cell (World.block_lt_of_cell? w _ hx232_4)).trans hx232_4
                replace hx232_5 := (HB.out.cell (World.block_lt_of_cell? w _ hx232_5)).trans hx232_5
                replace hx232_6 := (HB.out.cell (World.block_lt_of_cell? w _ hx232_6)).trans hx232_6
                replace hx232_7 := (HB.out.cell (World.block_lt_of_cell? w _ hx232_7)).trans hx232_7
                replace hx232_8 := (HB.out.cell (World.block_lt_of_cell? w _ hx232_8)).trans hx232_8
                have HR232_2 := Aside0.mk hi232_2
                have HC232_2 := Aside0.mk hl232_2
                clear hi232_2 hl232_2
                replace p232 := eq_true p232
                replace q232 := eq_true q232
                have p233 : 0 ≤ (x5_1 : Int) := of_decide_eq_true (by first | (with_reducible assumption) | assumption)
                have q233 : x5_1 < (l1.length : Int) := of_decide_eq_true (by first | (with_reducible assumption) | assumption)
                obtain ⟨ad233, A233_2, c233_2, e233, hx233_0, hx233_1, hx233_2, hx233_3, hx233_4, hx233_5, hx233_6, hx233_7, hx233_8, hl233_2, hi233_2⟩ := at_T39 HR1.out x5_1 p233 q233
                have hw233_8 := hx233_8
                have hw233_7 := hx233_7
                have hw233_6 := hx233_6
                have hw233_5 := hx233_5
                have hw233_4 := hx233_4
                have hw233_3 := hx233_3
                have hw233_2 := hx233_2
                have hw233_1 := hx233_1
                have hw233_0 := hx233_0
                cases e233
                replace hx233_0 := (HB.out.cell (World.block_lt_of_cell? w _ hx233_0)).trans hx233_0
                replace hx233_1 := (HB.out.cell (World.block_lt_of_cell? w _ hx233_1)).trans hx233_1
                replace hx233_2 := (HB.out.cell (World.block_lt_of_cell? w _ hx233_2)).trans hx233_2
                replace hx233_3 := (HB.out.cell (World.block_lt_of_cell? w _ hx233_3)).trans hx233_3
                replace hx233_4 := (HB.out.cell (World.block_lt_of_cell? w _ hx233_4)).trans hx233_4
                replace hx233_5 := (HB.out.cell (World.block_lt_of_cell? w _ hx233_5)).trans hx233_5
                replace hx233_6 := (HB.out.cell (World.block_lt_of_cell? w _ hx233_6)).trans hx233_6
                replace hx233_7 := (HB.out.cell (World.block_lt_of_cell? w _ hx233_7)).trans hx233_7
                replace hx233_8 := (HB.out.cell (World.block_lt_of_cell? w _ hx233_8)).trans hx233_8
                have HR233_2 := Aside0.mk hi233_2
                have HC233_2 := Aside0.mk hl233_2
                clear hi233_2 hl233_2
                replace p233 := eq_true p233
                replace q233 := eq_true q233
                refine start_ (n := 10) (S := fun w' => w'.cell? (ad232.add ((x5_1).toNat * 9)) = some (.string ((rd_T39 l0 x5_1).f0)) ∧ w'.cell? ⟨(ad232.add ((x5_1).toNat * 9)).block, (ad232.add ((x5_1).toNat * 9)).off + 1, none⟩ = some (.bool ((rd_T39 l0 x5_1).f1)) ∧ w'.cell? ⟨(ad232.add ((x5_1).toNat * 9)).block, (ad232.add ((x5_1).toNat * 9)).off + 2, none⟩ = some (.slice A232_2 ((rd_T39 l0 x5_1).f2).length c232_2) ∧ w'.cell? ⟨(ad232.add ((x5_1).toNat * 9)).block, (ad232.add ((x5_1).toNat * 9)).off + 3, none⟩ = some (.int .i64 ((rd_T39 l0 x5_1).f3)) ∧ w'.cell? ⟨(ad232.add ((x5_1).toNat * 9)).block, (ad232.add ((x5_1).toNat * 9)).off + 4, none⟩ = some (.int .i64 ((rd_T39 l0 x5_1).f4)) ∧ w'.cell? ⟨(ad232.add ((x5_1).toNat * 9)).block, (ad232.add ((x5_1).toNat * 9)).off + 5, none⟩ = some (.int .i64 ((rd_T39 l0 x5_1).f5)) ∧ w'.cell? ⟨(ad232.add ((x5_1).toNat * 9)).block, (ad232.add ((x5_1).toNat * 9)).off + 6, none⟩ = some (.string ((rd_T39 l0 x5_1).f6)) ∧ w'.cell? ⟨(ad232.add ((x5_1).toNat * 9)).block, (ad232.add ((x5_1).toNat * 9)).off + 7, none⟩ = some (.int .i64 ((rd_T39 l0 x5_1).f7)) ∧ w'.cell? ⟨(ad232.add ((x5_1).toNat * 9)).block, (ad232.add ((x5_1).toNat * 9)).off + 8, none⟩ = some (.int .i64 ((rd_T39 l0 x5_1).f8)) ∧ w'.cell? (ad233.add ((x5_1).toNat * 9)) = some (.string ((rd_T39 l1 x5_1).f0)) ∧ w'.cell? ⟨(ad233.add ((x5_1).toNat * 9)).block, (ad233.add ((x5_1).toNat * 9)).off + 1, none⟩ = some (.bool ((rd_T39 l1 x5_1).f1)) ∧ w'.cell? ⟨(ad233.add ((x5_1).toNat * 9)).block, (ad233.add ((x5_1).toNat * 9)).off + 2, none⟩ = some (.slice A233_2 ((rd_T39 l1 x5_1).f2).length c233_2) ∧ w'.cell? ⟨(ad233.add ((x5_1).toNat * 9)).block, (ad233.add ((x5_1).toNat * 9)).off + 3, none⟩ = some (.int .i64 ((rd_T39 l1 x5_1).f3)) ∧ w'.cell? ⟨(ad233.add ((x5_1).toNat * 9)).block, (ad233.add ((x5_1).toNat * 9)).off + 4, none⟩ = some (.int .i64 ((rd_T39 l1 x5_1).f4)) ∧ w'.cell? ⟨(ad233.add ((x5_1).toNat * 9)).block, (ad233.add ((x5_1).toNat * 9)).off + 5, none⟩ = some (.int .i64 ((rd_T39 l1 x5_1).f5)) ∧ w'.cell? ⟨(ad233.add ((x5_1).toNat * 9)).block, (ad233.add ((x5_1).toNat * 9)).off + 6, none⟩ = some (.string ((rd_T39 l1 x5_1).f6)) ∧ w'.cell? ⟨(ad233.add ((x5_1).toNat * 9)).block, (ad233.add ((x5_1).toNat * 9)).off + 7, none⟩ = some (.int .i64 ((rd_T39 l1 x5_1).f7)) ∧ w'.cell? ⟨(ad233.add ((x5_1).toNat * 9)).block, (ad233.add ((x5_1).toNat * 9)).off + 8, none⟩ = some (.int .i64 ((rd_T39 l1 x5_1).f8))) (ds := []) #[false, false, false, false, false, false, false, false, false, false] (by kernel_rfl) rfl rfl ⟨((HB.out.cell (World.block_lt_of_cell? w _ hw232_0)).trans hw232_0), ((HB.out.cell (World.block_lt_of_cell? w _ hw232_1)).trans hw232_1), ((HB.out.cell (World.block_lt_of_cell? w _ hw232_2)).trans hw232_2), ((HB.out.cell (World.block_lt_of_cell? w _ hw232_3)).trans hw232_3), ((HB.out.cell (World.block_lt_of_cell? w _ hw232_4)).trans hw232_4), ((HB.out.cell (World.block_lt_of_cell? w _ hw232_5)).trans hw232_5), ((HB.out.cell (World.block_lt_of_cell? w _ hw232_6)).trans hw232_6), ((HB.out.cell (World.block_lt_of_cell? w _ hw232_7)).trans hw232_7), ((HB.out.cell (World.block_lt_of_cell? w _ hw232_8)).trans hw232_8), ((HB.out.cell (World.block_lt_of_cell? w _ hw233_0)).trans hw233_0), ((HB.out.cell (World.block_lt_of_cell? w _ hw233_1)).trans hw233_1), ((HB.out.cell (World.block_lt_of_cell? w _ hw233_2)).trans hw233_2), ((HB.out.cell (World.block_lt_of_cell? w _ hw233_3)).trans hw233_3), ((HB.out.cell (World.block_lt_of_cell? w _ hw233_4)).trans hw233_4), ((HB.out.cell (World.block_lt_of_cell? w _ hw233_5)).trans hw233_5), ((HB.out.cell (World.block_lt_of_cell? w _ hw233_6)).trans hw233_6), ((HB.out.cell (World.block_lt_of_cell? w _ hw233_7)).trans hw233_7), ((HB.out.cell (World.block_lt_of_cell? w _ hw233_8)).trans hw233_8)⟩ (fun hHeld => ?_); refine with_tabW portagelaw0_SameEntries.tab6 portagelaw0_SameEntries.bits6 (fun HT_ HW_ => ?_)
                generalize wr.drew = w11 at HB HR232_2 HR233_2 hx232_0 hx232_1 hx232_2 hx232_3 hx232_4 hx232_5 hx232_6 hx232_7 hx232_8 hx233_0 hx233_1 hx233_2 hx233_3 hx233_4 hx233_5 hx233_6 hx233_7 hx233_8 hHeld ⊢
                refine pure_ (i := 0) (N := some 17) (v := ?_) (a' := ?_) #[true, false, false, false, false, false, false, false, false, false] rfl rfl (any_of HT_.out (by kernel_rfl)) (fun _ _ _ h => h) (Or.inl ⟨by rfl, ?_⟩) ?_ ?_
                rotate_left
                · intro w'
                  go_simp
                  with_reducible rfl
                rotate_left
                · simp only [Act.put, List.setIfInBounds_toArray, List.set_cons_zero, List.set_cons_succ, i64_w, i32_w, IntKind.wrap_u8, IntKind.wrap_u32]
                  rfl
                refine pure_ (i := 1) (N := some 18) (v := ?_) (a' := ?_) #[true, true, false, false, false, false, false, false, false, false] rfl rfl (any_of HT_.out (by kernel_rfl)) (fun _ _ _ h => h) (Or.inl ⟨by rfl, ?_⟩) ?_ ?_
                rotate_left
                · intro w'
                  go_simp
                  with_reducible rfl
                rotate_left
                · simp only [Act.put, List.setIfInBounds_toArray, List.set_cons_zero, List.set_cons_succ, i64_w, i32_w, IntKind.wrap_u8, IntKind.wrap_u32]
                  rfl
                refine pure_ (i := 2) (N := some 19) (v := ?_) (a' := ?_) #[true, true, true, false, false, false, false, false, false, false] rfl rfl (any_of HT_.out (by kernel_rfl)) (fun _ _ _ h => h) (Or.inl ⟨by rfl, ?_⟩) ?_ ?_
                rotate_left
                · intro w'
                  go_simp
                  with_reducible rfl
                rotate_left
                · simp only [Act.put, List.setIfInBounds_toArray, List.set_cons_zero, List.set_cons_succ, i64_w, i32_w, IntKind.wrap_u8, IntKind.wrap_u32]
                  rfl
                refine pure_ (i := 4) (N := some 21) (v := ?_) (a' := ?_) #[true, true, true, false, true, false, false, false, false, false] rfl rfl (any_of HT_.out (by kernel_rfl)) (fun _ _ _ h => h) (Or.inl ⟨by rfl, ?_⟩) ?_ ?_
                rotate_left
                · intro w'
                  go_simp
                  with_reducible rfl
                rotate_left
                · simp only [Act.put, List.setIfInBounds_toArray, List.set_cons_zero, List.set_cons_succ, i64_w, i32_w, IntKind.wrap_u8, IntKind.wrap_u32]
                  rfl
                refine pure_ (i := 5) (N := some 22) (v := ?_) (a' := ?_) #[true, true, true, false, true, true, false, false, false, false] rfl rfl (any_of HT_.out (by kernel_rfl)) (fun _ _ _ h => h) (Or.inl ⟨by rfl, ?_⟩) ?_ ?_
                rotate_left
                · intro w'
                  go_simp
                  with_reducible rfl
                rotate_left
                · simp only [Act.put, List.setIfInBounds_toArray, List.set_cons_zero, List.set_cons_succ, i64_w, i32_w, IntKind.wrap_u8, IntKind.wrap_u32]
                  rfl
                refine pure_ (i := 6) (N := some 23) (v := ?_) (a' := ?_) #[true, true, true, false, true, true, true, false, false, false] rfl rfl (any_of HT_.out (by kernel_rfl)) (fun _ _ _ h => h) (Or.inl ⟨by rfl, ?_⟩) ?_ ?_
                rotate_left
                · intro w'
                  go_simp
                  with_reducible rfl
                rotate_left
                · simp only [Act.put, List.setIfInBounds_toArray, List.set_cons_zero, List.set_cons_succ, i64_w, i32_w, IntKind.wrap_u8, IntKind.wrap_u32]
                  rfl
                refine take_ (i := 3) (N := some 20) (v := ?_) (a' := ?_) #[true, true, true, true, true, true, true, false, false, false] rfl rfl (take_ofW HT_.out HW_.out (by kernel_rfl)) (fun _ _ _ h => h) (Or.inl ⟨by rfl, ?_⟩) hHeld ?_ ?_
                rotate_left
                · rintro w' ⟨s0, s1, s2, s3, s4, s5, s6, s7, s8, s9, s10, s11, s12, s13, s14, s15, s16, s17⟩
                  go_simp
                  with_reducible rfl
                rotate_left
                · simp only [Act.put, List.setIfInBounds_toArray, List.set_cons_zero, List.set_cons_succ, i64_w, i32_w, IntKind.wrap_u8, IntKind.wrap_u32]
                  rfl
                refine take_ (i := 7) (N := some 24) (v := ?_) (a' := ?_) #[true, true, true, true, true, true, true, true, false, false] rfl rfl (take_ofW HT_.out HW_.out (by kernel_rfl)) (fun _ _ _ h => h) (Or.inl ⟨by rfl, ?_⟩) hHeld ?_ ?_
                rotate_left
                · rintro w' ⟨s0, s1, s2, s3, s4, s5, s6, s7, s8, s9, s10, s11, s12, s13, s14, s15, s16, s17⟩
                  go_simp
                  with_reducible rfl
                rotate_left
                · simp only [Act.put, List.setIfInBounds_toArray, List.set_cons_zero, List.set_cons_succ, i64_w, i32_w, IntKind.wrap_u8, IntKind.wrap_u32]
                  rfl
                refine one_ (i := 8) (N := some 25) #[true, true, true, true, true, true, true, true, true, false] rfl rfl (one_of HT_.out (by kernel_rfl)) (by decide) (fun K hK => ?_)
                refine goes_ Tryd.func88 (by kernel_rfl) rfl #[.agg #[.string ((rd_T39 l0 x5_1).f0), .bool ((rd_T39 l0 x5_1).f1), .slice A232_2 ((rd_T39 l0 x5_1).f2).length c232_2, .int .i64 ((rd_T39 l0 x5_1).f3), .int .i64 ((rd_T39 l0 x5_1).f4), .int .i64 ((rd_T39 l0 x5_1).f5), .string ((rd_T39 l0 x5_1).f6), .int .i64 ((rd_T39 l0 x5_1).f7), .int .i64 ((rd_T39 l0 x5_1).f8)], .agg #[.string ((rd_T39 l1 x5_1).f0), .bool ((rd_T39 l1 x5_1).f1), .slice A233_2 ((rd_T39 l1 x5_1).f2).length c233_2, .int .i64 ((rd_T39 l1 x5_1).f3), .int .i64 ((rd_T39 l1 x5_1).f4), .int .i64 ((rd_T39 l1 x5_1).f5), .string ((rd_T39 l1 x5_1).f6), .int .i64 ((rd_T39 l1 x5_1).f7), .int .i64 ((rd_T39 l1 x5_1).f8)]] (by rfl) rfl rfl (by (try simp only [List.map_toArray, List.map_cons, List.map_nil]); first | done | rfl | (simp only [List.length_drop, List.length_take]; rfl)) ?_
                with_reducible refine (portagelaw0_SameEntry.calls k1 ((rd_T39 l0 x5_1).f0) ((rd_T39 l0 x5_1).f1) _ _ ((rd_T39 l0 x5_1).f2) ((rd_T39 l0 x5_1).f3) ((rd_T39 l0 x5_1).f4) ((rd_T39 l0 x5_1).f5) ((rd_T39 l0 x5_1).f6) ((rd_T39 l0 x5_1).f7) ((rd_T39 l0 x5_1).f8) ((rd_T39 l1 x5_1).f0) ((rd_T39 l1 x5_1).f1) _ _ ((rd_T39 l1 x5_1).f2) ((rd_T39 l1 x5_1).f3) ((rd_T39 l1 x5_1).f4) ((rd_T39 l1 x5_1).f5) ((rd_T39 l1 x5_1).f6) ((rd_T39 l1 x5_1).f7) ((rd_T39 l1 x5_1).f8) false _ ?side1 ?side2 ?side3 ?side4 A7.out).mono ?_
                (case side1 => repeat (first | exact (Kd.C_below HR232_2.out HB.out) | (with_reducible refine Kd.C_alloc ?_ _) | (with_reducible refine Kd.C_drewN ?_ _) | (with_reducible refine Kd.C_drew ?_)))
                (case side2 => exact HC232_2.out)
                (case side3 => repeat (first | exact (Kd.C_below HR233_2.out HB.out) | (with_reducible refine Kd.C_alloc ?_ _) | (with_reducible refine Kd.C_drewN ?_ _) | (with_reducible refine Kd.C_drew ?_)))
                (case side4 => exact HC233_2.out)
                rintro e w12 ⟨rfl, hb⟩
                refine ⟨_, rfl, ?_⟩
                have n0_ := Aside0.mk (below_step (by repeat (first | (with_reducible first | exact HB.out | apply below_alloc | apply pw_below_drewN | apply below_drew1) | exact HB.out)) hb)
                clear HB
                have HB := n0_
                clear n0_
                (try clear hb)
                (try clear hb2)
                (try clear hk)
                (try clear hi)
                refine hK.out _ _ ⟨((HB.out.cell (World.block_lt_of_cell? w _ hw232_0)).trans hw232_0), ((HB.out.cell (World.block_lt_of_cell? w _ hw232_1)).trans hw232_1), ((HB.out.cell (World.block_lt_of_cell? w _ hw232_2)).trans hw232_2), ((HB.out.cell (World.block_lt_of_cell? w _ hw232_3)).trans hw232_3), ((HB.out.cell (World.block_lt_of_cell? w _ hw232_4)).trans hw232_4), ((HB.out.cell (World.block_lt_of_cell? w _ hw232_5)).trans hw232_5), ((HB.out.cell (World.block_lt_of_cell? w _ hw232_6)).trans hw232_6), ((HB.out.cell (World.block_lt_of_cell? w _ hw232_7)).trans hw232_7), ((HB.out.cell (World.block_lt_of_cell? w _ hw232_8)).trans hw232_8), ((HB.out.cell (World.block_lt_of_cell? w _ hw233_0)).trans hw233_0), ((HB.out.cell (World.block_lt_of_cell? w _ hw233_1)).trans hw233_1), ((HB.out.cell (World.block_lt_of_cell? w _ hw233_2)).trans hw233_2), ((HB.out.cell (World.block_lt_of_cell? w _ hw233_3)).trans hw233_3), ((HB.out.cell (World.block_lt_of_cell? w _ hw233_4)).trans hw233_4), ((HB.out.cell (World.block_lt_of_cell? w _ hw233_5)).trans hw233_5), ((HB.out.cell (World.block_lt_of_cell? w _ hw233_6)).trans hw233_6), ((HB.out.cell (World.block_lt_of_cell? w _ hw233_7)).trans hw233_7), ((HB.out.cell (World.block_lt_of_cell? w _ hw233_8)).trans hw233_8)⟩ (fun hHeld => ?_)
                clear hK K
                refine norm_ (a' := ?_) ?_ ?_
                rotate_left
                · show Act.put _ (some 25) _ = _
                  simp only [Act.put, List.setIfInBounds_toArray, List.set_cons_zero, List.set_cons_succ, i64_w, i32_w, IntKind.wrap_u8, IntKind.wrap_u32]
                  rfl
                refine pure_ (i := 9) (N := some 26) (v := ?_) (a' := ?_) #[true, true, true, true, true, true, true, true, true, true] rfl rfl (any_of HT_.out (by kernel_rfl)) (fun _ _ _ h => h) (Or.inl ⟨by rfl, ?_⟩) ?_ ?_
                rotate_left
                · intro w'
                  go_simp
                  with_reducible rfl
                rotate_left
                · simp only [Act.put, List.setIfInBounds_toArray, List.set_cons_zero, List.set_cons_succ, i64_w, i32_w, IntKind.wrap_u8, IntKind.wrap_u32]
                  rfl
                refine done_ (done_of HT_.out (by kernel_rfl)) ?_
                try go_wp2
                go_ret
                exact ⟨by first | rfl | (simp [errW_none, errW_some] <;> rfl) | (simp [*, errW_none, errW_some] <;> rfl), by repeat (first | (with_reducible first | exact HB.out | apply below_alloc | apply pw_below_drewN | apply below_drew1) | exact HB.out)⟩
            · rw [if_neg c6] at H
              exact absurd H (by simp)
          · rw [if_neg c5] at H
            exact absurd H (by simp)
        · rw [if_neg c4] at H
          have c4b0 : decide (x5_1 < (l0.length : Int)) = false := decide_eq_false c4
          clear c4
          obtain rfl := Option.some.inj H
          go_wp2
          go_ret
          exact ⟨by first | rfl | (simp [errW_none, errW_some] <;> rfl) | (simp [*, errW_none, errW_some] <;> rfl), by repeat (first | (with_reducible first | exact HB.out | apply below_alloc | apply pw_below_drewN | apply below_drew1) | exact HB.out)⟩
  · rw [if_neg c3] at H
    have c3b0 : ((l0.length : Int) == (l1.length : Int)) = false := beq_eq_false_iff_ne.mpr c3
    have c3b1 : ((l0.length : Int) != (l1.length : Int)) = true := bne_iff_ne.mpr c3
    have c3b2 : (l0.length == l1.length) = false := by first | simpa using c3 | (simp at c3 ⊢; omega)
    obtain rfl := Option.some.inj H
    go_enter Tryd.func59, Tryd.ntmps59
    go_wp2
    go_ret
    exact ⟨by first | rfl | (simp [errW_none, errW_some] <;> rfl) | (simp [*, errW_none, errW_some] <;> rfl), by repeat (first | (with_reducible first | exact HB.out | apply below_alloc | apply pw_below_drewN | apply below_drew1) | exact HB.out)⟩

/-! ### portagelaw0_SameFolder: function 24 -/
def portagelaw0_SameFolder.f (k : Nat) (l0_0 : List (S39)) (l1_0 : List (S39)) : Option (Bool) := (portagelaw0_SameEntries.f k l0_0 l1_0).bind fun t237 => (some t237)
theorem portagelaw0_SameFolder.mono : ∀ a0 a1 k, LeO (portagelaw0_SameFolder.f k a0 a1) (portagelaw0_SameFolder.f (k + 1) a0 a1) := by
  intro a0 a1 k
  unfold portagelaw0_SameFolder.f
  repeat' first
      | (with_reducible exact portagelaw0_SameEntries.mono _ _ _)
      | (with_reducible exact LeO.refl _)
      | (with_reducible exact LeO.none _)
      | (with_reducible refine LeO.ite ?_ ?_)
      | (with_reducible refine LeO.bind ?_ (fun _ => ?_))
      | exact portagelaw0_SameEntries.mono _ _ _
      | exact LeO.none _
      | refine LeO.ite ?_ ?_
      | refine LeO.bind ?_ (fun _ => ?_)
set_option maxHeartbeats 8000000 in
set_option maxRecDepth 100000 in
theorem portagelaw0_SameFolder.calls (k : Nat) (A0_0 : Option Addr) (c0_0 : Nat) (l0_0 : List (S39)) (A1_0 : Option Addr) (c1_0 : Nat) (l1_0 : List (S39)) (r : Bool) (w : World) (hr0_0 : Kd.C k39 w A0_0 l0_0.length l0_0) (hc0_0 : l0_0.length ≤ c0_0) (hr1_0 : Kd.C k39 w A1_0 l1_0.length l1_0) (hc1_0 : l1_0.length ≤ c1_0) (h : portagelaw0_SameFolder.f k l0_0 l1_0 = some r) :
    Calls Tryd.prog 24 #[.agg #[.slice A0_0 l0_0.length c0_0], .agg #[.slice A1_0 l1_0.length c1_0]] w fun e w' => e = .returned (.bool r) ∧ Below w.heap.size w w' := by
  have hu24 := Tryd.underlying24
  have HR0_0 := Aside0.mk hr0_0
  have HC0_0 := Aside0.mk hc0_0
  clear hr0_0 hc0_0
  have HR1_0 := Aside0.mk hr1_0
  have HC1_0 := Aside0.mk hc1_0
  clear hr1_0 hc1_0
  have HB := Aside0.mk (Below.refl w.heap.size w)
  have H : ((portagelaw0_SameEntries.f k l0_0 l1_0).bind fun t237 => (some t237)) = some r := h
  clear h
  replace H := Option.bind_eq_some_iff.mp H
  obtain ⟨t237, A30, H⟩ := H
  replace H : (some t237) = some r := H
  have A3 := Aside0.mk A30
  clear A30
  obtain rfl := Option.some.inj H
  go_enter Tryd.func24, Tryd.ntmps24
  go_wp2_with (first | ((with_reducible refine gate_dst (N := 2) rfl ?_); refine box_event ?hg (N := 2) ?hd (cs := #[.slice A0_0 l0_0.length c0_0]) (t := 24) ?hr ?_; (case hd => rfl); (case hg => rfl); (case hr => first | (go_simp; done) | (go_simp; rfl)); intro gb235 hg w4 hbox hb; have n0_ := Aside0.mk (below_step (by repeat (first | (with_reducible first | exact HB.out | apply below_alloc | apply pw_below_drewN | apply below_drew1) | exact HB.out)) hb); have n1_ := Aside0.mk (hbox); have n2_ := Aside0.mk ((by rw [hg]; exact (below_size (by repeat (first | (with_reducible first | exact HB.out | apply below_alloc | apply pw_below_drewN | apply below_drew1) | exact HB.out))) : w.heap.size ≤ gb235)); have n3_ := Aside0.mk ((by rw [hg]; exact (below_size (by repeat (first | (with_reducible first | exact HB.out | apply below_alloc | apply pw_below_drewN | apply below_drew1) | exact HB.out))) : w.heap.size ≤ gb235)); clear HB; have HB := n0_; have BK235 := n1_; have GW235 := n2_; have GE235 := n3_; clear n0_ n1_ n2_ n3_; clear hb hbox hg) | ((with_reducible refine gate_dst (N := 3) rfl ?_); refine box_event ?hg (N := 3) ?hd (cs := #[.slice A1_0 l1_0.length c1_0]) (t := 24) ?hr ?_; (case hd => rfl); (case hg => rfl); (case hr => first | (go_simp; done) | (go_simp; rfl)); intro gb236 hg w5 hbox hb; have n0_ := Aside0.mk (blk_below (g := gb235) (o := .cells #[.slice A0_0 l0_0.length c0_0] 24 (0, 0)) (by (with_reducible repeat (first | refine blk_drewN ?_ _ | refine blk_drew ?_ | refine blk_alloc ?_ _)); exact BK235.out) hb); have n1_ := Aside0.mk (below_step (by repeat (first | (with_reducible first | exact HB.out | apply below_alloc | apply pw_below_drewN | apply below_drew1 | refine below_set ?_ GE235.out) | exact HB.out)) hb); have n2_ := Aside0.mk (hbox); have n3_ := Aside0.mk ((by rw [hg]; exact (below_size (by repeat (first | (with_reducible first | exact HB.out | apply below_alloc | apply pw_below_drewN | apply below_drew1 | refine below_set ?_ GE235.out) | exact HB.out))) : w.heap.size ≤ gb236)); have n4_ := Aside0.mk ((by rw [hg]; exact (below_size (by repeat (first | (with_reducible first | exact HB.out | apply below_alloc | apply pw_below_drewN | apply below_drew1 | refine below_set ?_ GE235.out) | exact HB.out))) : w.heap.size ≤ gb236)); have n5_ := Aside0.mk ((by rw [hg]; exact Nat.ne_of_lt (blk_lt (g := gb235) (o := .cells #[.slice A0_0 l0_0.length c0_0] 24 (0, 0)) (by (with_reducible repeat (first | refine blk_drewN ?_ _ | refine blk_drew ?_ | refine blk_alloc ?_ _)); exact BK235.out)) : gb235 ≠ gb236)); have n6_ := Aside0.mk ((by rw [hg]; exact Nat.ne_of_gt (blk_lt (g := gb235) (o := .cells #[.slice A0_0 l0_0.length c0_0] 24 (0, 0)) (by (with_reducible repeat (first | refine blk_drewN ?_ _ | refine blk_drew ?_ | refine blk_alloc ?_ _)); exact BK235.out)) : gb236 ≠ gb235)); clear BK235; clear HB; have BK235 := n0_; have HB := n1_; have BK236 := n2_; have GW236 := n3_; have GE236 := n4_; have NB235_236 := n5_; have NB236_235 := n6_; clear n0_ n1_ n2_ n3_ n4_ n5_ n6_; clear hb hbox hg; have hnb6 := NB235_236.out; have hnc6 := NB236_235.out; have hcz7_0 : w5.cell? ⟨gb235, 0, none⟩ = some (.slice A0_0 l0_0.length c0_0) := (blk_cell BK235.out 0).trans rfl; have hfz7_0 := blk_frozen BK235.out 0; have hcz8_0 : w5.cell? ⟨gb236, 0, none⟩ = some (.slice A1_0 l1_0.length c1_0) := (blk_cell BK236.out 0).trans rfl; have hfz8_0 := blk_frozen BK236.out 0) | ((with_reducible refine gate_callee (f := 59) rfl ?_); refine goesL_ (some 9) rfl rfl Tryd.func59 (by kernel_rfl) rfl #[.slice A0_0 l0_0.length c0_0, .slice A1_0 l1_0.length c1_0] rfl (by (try simp only [List.map_toArray, List.map_cons, List.map_nil]); first | done | rfl | (simp only [List.length_drop, List.length_take]; rfl)) ?_; (with_reducible refine (portagelaw0_SameEntries.calls k _ _ l0_0 _ _ l1_0 t237 _ ?side1 ?side2 ?side3 ?side4 A3.out).mono ?_); (case side1 => repeat (first | exact (Kd.C_below HR0_0.out HB.out) | (with_reducible refine Kd.C_alloc ?_ _) | (with_reducible refine Kd.C_drewN ?_ _) | (with_reducible refine Kd.C_drew ?_))); (case side2 => exact HC0_0.out); (case side3 => repeat (first | exact (Kd.C_below HR1_0.out HB.out) | (with_reducible refine Kd.C_alloc ?_ _) | (with_reducible refine Kd.C_drewN ?_ _) | (with_reducible refine Kd.C_drew ?_))); (case side4 => exact HC1_0.out); rintro e w9 ⟨rfl, hb⟩; refine ⟨_, rfl, ?_⟩; have n0_ := Aside0.mk (blk_below (g := gb235) (o := .cells #[.slice A0_0 l0_0.length c0_0] 24 (0, 0)) (by (with_reducible repeat (first | refine blk_drewN ?_ _ | refine blk_drew ?_ | refine blk_alloc ?_ _)); exact BK235.out) hb); have n1_ := Aside0.mk (blk_below (g := gb236) (o := .cells #[.slice A1_0 l1_0.length c1_0] 24 (0, 0)) (by (with_reducible repeat (first | refine blk_drewN ?_ _ | refine blk_drew ?_ | refine blk_alloc ?_ _)); exact BK236.out) hb); have n2_ := Aside0.mk (below_step (by repeat (first | (with_reducible first | exact HB.out | apply below_alloc | apply pw_below_drewN | apply below_drew1 | refine below_set ?_ GE235.out | refine below_set ?_ GE236.out) | exact HB.out)) hb); clear BK235; clear BK236; clear HB; have BK235 := n0_; have BK236 := n1_; have HB := n2_; clear n0_ n1_ n2_; (try clear hb); (try clear hb2); (try clear hk); (try clear hi)))
  go_ret
  exact ⟨by first | rfl | (simp [errW_none, errW_some] <;> rfl) | (simp [*, errW_none, errW_some] <;> rfl), by repeat (first | (with_reducible first | exact HB.out | apply below_alloc | apply pw_below_drewN | apply below_drew1 | refine below_set ?_ GE235.out | refine below_set ?_ GE236.out) | exact HB.out)⟩

end Go.Proofs.YtneogampbohfnaaDoor.ZF
