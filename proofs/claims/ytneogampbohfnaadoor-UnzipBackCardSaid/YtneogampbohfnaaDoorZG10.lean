-- Written by a program of this session out of the translation (a changed copy of the kit's printer).
import Derived.Test.YtneogampbohfnaaDoorZG0
import Derived.Test.YtneogampbohfnaaDoorZG9
namespace Go.Proofs.YtneogampbohfnaaDoor.ZG
open Go.Proofs.YtneogampbohfnaaDoor.ZB (S39 z39 k39 k39_open k39_openM k39_mk k39_mkM rd_T39 at_T39)
open Go.RowKit Go.Proofs.YtneogampbohfnaaDoorW.PrintWords Go.Proofs.YtneogampbohfnaaDoorW.PrintLast Go.Proofs.YtneogampbohfnaaDoorW.PrintMore
attribute [local go_sem] max2_int min2_int max_two min_two max_three min_three max_four min_four   -- for this text's walks alone
set_option linter.unusedVariables false
set_option linter.unusedSimpArgs false

/-! ### portagelaw0_SameEntries: function 59 -/
def portagelaw0_SameEntries.l0 : Nat → List (S39) → List (S39) → Int → Option (Bool)
 | 0, _, _, _ => none
 | k + 1, x0, x1, x5 => if x5 < (x0.length : Int) then (if 0 ≤ x5 then (if x5 < (x1.length : Int) then ((portagelaw0_SameEntry.f k ((rd_T39 x0 x5).f0) ((rd_T39 x0 x5).f1) ((rd_T39 x0 x5).f2) ((rd_T39 x0 x5).f3) ((rd_T39 x0 x5).f4) ((rd_T39 x0 x5).f5) ((rd_T39 x0 x5).f6) ((rd_T39 x0 x5).f7) ((rd_T39 x0 x5).f8) ((rd_T39 x1 x5).f0) ((rd_T39 x1 x5).f1) ((rd_T39 x1 x5).f2) ((rd_T39 x1 x5).f3) ((rd_T39 x1 x5).f4) ((rd_T39 x1 x5).f5) ((rd_T39 x1 x5).f6) ((rd_T39 x1 x5).f7) ((rd_T39 x1 x5).f8)).bind fun t244 => (if t244 = true then (portagelaw0_SameEntries.l0 k x0 x1 (wrap64 (x5 + 1))) else (some false))) else (none)) else (none)) else (some true)
def portagelaw0_SameEntries.f (k : Nat) (l0 : List (S39)) (l1 : List (S39)) : Option (Bool) := if (l0.length : Int) = (l1.length : Int) then (portagelaw0_SameEntries.l0 k l0 l1 0) else (some false)
theorem portagelaw0_SameEntries.mono_l : ∀ k, (∀ y0 y1 y2, LeO (portagelaw0_SameEntries.l0 k y0 y1 y2) (portagelaw0_SameEntries.l0 (k + 1) y0 y1 y2))
 | 0 => fun _ _ _ r h => by simp [portagelaw0_SameEntries.l0] at h
 | k + 1 => by
  have ih0 := portagelaw0_SameEntries.mono_l k
  ·intro y0 y1 y2
   unfold portagelaw0_SameEntries.l0
   repeat' first
   | (with_reducible exact ih0 _ _ _)
   | (with_reducible exact portagelaw0_SameEntry.mono _ _ _ _ _ _ _ _ _ _ _ _ _ _ _ _ _ _ _)
   | (with_reducible exact LeO.refl _)
   | (with_reducible exact LeO.none _)
   | (with_reducible refine LeO.ite ?_ ?_)
   | (with_reducible refine LeO.bind ?_ (fun _ => ?_))
   | exact ih0 _ _ _
   | exact portagelaw0_SameEntry.mono _ _ _ _ _ _ _ _ _ _ _ _ _ _ _ _ _ _ _
   | exact LeO.none _
   | refine LeO.ite ?_ ?_
   | refine LeO.bind ?_ (fun _ => ?_)
theorem portagelaw0_SameEntries.mono : ∀ a0 a1 k, LeO (portagelaw0_SameEntries.f k a0 a1) (portagelaw0_SameEntries.f (k + 1) a0 a1) := by
 intro a0 a1 k
 have ih0 := portagelaw0_SameEntries.mono_l k
 unfold portagelaw0_SameEntries.f
 repeat' first
   | (with_reducible exact ih0 _ _ _)
   | (with_reducible exact portagelaw0_SameEntry.mono _ _ _ _ _ _ _ _ _ _ _ _ _ _ _ _ _ _ _)
   | (with_reducible exact LeO.refl _)
   | (with_reducible exact LeO.none _)
   | (with_reducible refine LeO.ite ?_ ?_)
   | (with_reducible refine LeO.bind ?_ (fun _ => ?_))
   | exact ih0 _ _ _
   | exact portagelaw0_SameEntry.mono _ _ _ _ _ _ _ _ _ _ _ _ _ _ _ _ _ _ _
   | exact LeO.none _
   | refine LeO.ite ?_ ?_
   | refine LeO.bind ?_ (fun _ => ?_)
def portagelaw0_SameEntries.T6 : Bool × List (List Nat × List Nat) := (true, [([], []), ([], []), ([0, 1], [0, 1]), ([2], [2]), ([], []), ([], []), ([4, 5], [4, 5]), ([6], [6]), ([3, 7], [3, 7]), ([8], [8])])
def portagelaw0_SameEntries.B6 : List Nat := [0, 0, 3, 7, 0, 0, 48, 112, 255, 511]
theorem portagelaw0_SameEntries.tab6 : rtab .any (opsOf Tryd.f59 6) = portagelaw0_SameEntries.T6 := by kernel_rfl
theorem portagelaw0_SameEntries.bits6 : waitsOk portagelaw0_SameEntries.T6.2 portagelaw0_SameEntries.B6 = true := by kernel_rfl
set_option maxHeartbeats 8000000 in
set_option maxRecDepth 100000 in
theorem portagelaw0_SameEntries.calls (k : Nat) (A0 : Option Addr) (c0 : Nat) (l0 : List (S39)) (A1 : Option Addr) (c1 : Nat) (l1 : List (S39)) (r : Bool) (w : World) (hr0 : Kd.C k39 w A0 l0.length l0) (hc0 : l0.length ≤ c0) (hr1 : Kd.C k39 w A1 l1.length l1) (hc1 : l1.length ≤ c1) (h : portagelaw0_SameEntries.f k l0 l1 = some r) :
  Calls Tryd.prog 59 #[.slice A0 l0.length c0, .slice A1 l1.length c1] w fun e w' => e = .returned (.bool r) ∧ Below w.heap.size w w' := by
 have hu39 := Tryd.underlying39
 have HR0 := qas hr0
 have HC0 := qas hc0
 clear hr0 hc0
 have HR1 := qas hr1
 have HC1 := qas hc1
 clear hr1 hc1
 have HB := qas (Below.refl w.heap.size w)
 have H : (if (l0.length : Int) = (l1.length : Int) then (portagelaw0_SameEntries.l0 k l0 l1 0) else (some false)) = some r := h
 clear h
 by_cases c3 : (l0.length : Int) = (l1.length : Int)
 ·rw [if_pos c3] at H
  have c3b0 : ((l0.length : Int) == (l1.length : Int)) = true := beq_iff_eq.mpr c3
  have c3b1 : ((l0.length : Int) != (l1.length : Int)) = false := bne_eq_false_iff_eq.mpr c3
  have c3b2 : (l0.length == l1.length) = true := by first | simpa using c3 | (simp at c3 ⊢; omega)
  clear c3
  have H' := qas H
  clear H
  go_enter Tryd.func59, Tryd.ntmps59
  go_wp2
  go_loopg [5] k (fun kq v5 w' => ∃ (x5_1 : Int), v5 = .int .i64 x5_1 ∧ Aside0 (portagelaw0_SameEntries.l0 kq l0 l1 x5_1 = some r) ∧ Aside0 (kq ≤ k) ∧ Aside0 (Below w.heap.size w w'))
  case atStart => exact ⟨(0), (by first | rfl | (simp; done) | (simp [*]; done)), H', ⟨Nat.le_refl _⟩, ⟨by repeat (first | (with_reducible first | exact HB.out | apply qbA | apply qbB | apply qbC) | exact HB.out)⟩⟩
  case round =>
   clear H'
   try clear c1
   try clear p2
   try clear c3
   try clear c3b0
   try clear c3b1
   try clear c3b2
   obtain ⟨x5_1, rfl, HA, HK1, HB⟩ := hrel
   cases gk with
   | zero => exact absurd HA.out (by simp [portagelaw0_SameEntries.l0])
   | succ k1 =>
    have H := HA.out
    clear HA
    simp only [portagelaw0_SameEntries.l0] at H
    by_cases c4 : x5_1 < (l0.length : Int)
    ·rw [if_pos c4] at H
     have c4b0 : decide (x5_1 < (l0.length : Int)) = true := decide_eq_true c4
     clear c4
     by_cases c5 : 0 ≤ x5_1
     ·rw [if_pos c5] at H
      have c5b0 : decide (0 ≤ x5_1) = true := decide_eq_true c5
      clear c5
      by_cases c6 : x5_1 < (l1.length : Int)
      ·rw [if_pos c6] at H
       have c6b0 : decide (x5_1 < (l1.length : Int)) = true := decide_eq_true c6
       clear c6
       replace H := Option.bind_eq_some_iff.mp H
       obtain ⟨t244, A70, H⟩ := H
       replace H : (if t244 = true then (portagelaw0_SameEntries.l0 k1 l0 l1 (wrap64 (x5_1 + 1))) else (some false)) = some r := H
       have A7 := qas A70
       clear A70
       by_cases c8 : t244 = true
       ·subst c8
        have H1 : (portagelaw0_SameEntries.l0 k1 l0 l1 (wrap64 (x5_1 + 1))) = some r := by rw [if_pos rfl] at H; exact H
        clear H
        have H := H1
        clear H1
        have H' := qas H
        clear H
        try go_wp2
        have n0_ := qas (qbC HB.out)
        clear HB
        have HB := n0_
        clear n0_
        have p242 : 0 ≤ (x5_1 : Int) := qde (by first | (with_reducible assumption) | assumption)
        have q242 : x5_1 < (l0.length : Int) := qde (by first | (with_reducible assumption) | assumption)
        obtain ⟨ad242, A242_2, c242_2, e242, hx242_0, hx242_1, hx242_2, hx242_3, hx242_4, hx242_5, hx242_6, hx242_7, hx242_8, hl242_2, hi242_2⟩ := at_T39 HR0.out x5_1 p242 q242
        have hw242_8 := hx242_8
        have hw242_7 := hx242_7
        have hw242_6 := hx242_6
        have hw242_5 := hx242_5
        have hw242_4 := hx242_4
        have hw242_3 := hx242_3
        have hw242_2 := hx242_2
        have hw242_1 := hx242_1
        have hw242_0 := hx242_0
        cases e242
        replace hx242_0 := (HB.out.cell (qbl w _ hx242_0)).trans hx242_0
        replace hx242_1 := (HB.out.cell (qbl w _ hx242_1)).trans hx242_1
        replace hx242_2 := (HB.out.cell (qbl w _ hx242_2)).trans hx242_2
        replace hx242_3 := (HB.out.cell (qbl w _ hx242_3)).trans hx242_3
        replace hx242_4 := (HB.out.cell (qbl w _ hx242_4)).trans hx242_4
        replace hx242_5 := (HB.out.cell (qbl w _ hx242_5)).trans hx242_5
        replace hx242_6 := (HB.out.cell (qbl w _ hx242_6)).trans hx242_6
        replace hx242_7 := (HB.out.cell (qbl w _ hx242_7)).trans hx242_7
        replace hx242_8 := (HB.out.cell (qbl w _ hx242_8)).trans hx242_8
        have HR242_2 := qas hi242_2
        have HC242_2 := qas hl242_2
        clear hi242_2 hl242_2
        replace p242 := eq_true p242
        replace q242 := eq_true q242
        have p243 : 0 ≤ (x5_1 : Int) := qde (by first | (with_reducible assumption) | assumption)
        have q243 : x5_1 < (l1.length : Int) := qde (by first | (with_reducible assumption) | assumption)
        obtain ⟨ad243, A243_2, c243_2, e243, hx243_0, hx243_1, hx243_2, hx243_3, hx243_4, hx243_5, hx243_6, hx243_7, hx243_8, hl243_2, hi243_2⟩ := at_T39 HR1.out x5_1 p243 q243
        have hw243_8 := hx243_8
        have hw243_7 := hx243_7
        have hw243_6 := hx243_6
        have hw243_5 := hx243_5
        have hw243_4 := hx243_4
        have hw243_3 := hx243_3
        have hw243_2 := hx243_2
        have hw243_1 := hx243_1
        have hw243_0 := hx243_0
        cases e243
        replace hx243_0 := (HB.out.cell (qbl w _ hx243_0)).trans hx243_0
        replace hx243_1 := (HB.out.cell (qbl w _ hx243_1)).trans hx243_1
        replace hx243_2 := (HB.out.cell (qbl w _ hx243_2)).trans hx243_2
        replace hx243_3 := (HB.out.cell (qbl w _ hx243_3)).trans hx243_3
        replace hx243_4 := (HB.out.cell (qbl w _ hx243_4)).trans hx243_4
        replace hx243_5 := (HB.out.cell (qbl w _ hx243_5)).trans hx243_5
        replace hx243_6 := (HB.out.cell (qbl w _ hx243_6)).trans hx243_6
        replace hx243_7 := (HB.out.cell (qbl w _ hx243_7)).trans hx243_7
        replace hx243_8 := (HB.out.cell (qbl w _ hx243_8)).trans hx243_8
        have HR243_2 := qas hi243_2
        have HC243_2 := qas hl243_2
        clear hi243_2 hl243_2
        replace p243 := eq_true p243
        replace q243 := eq_true q243
        refine start_ (n := 10) (S := fun w' => w'.cell? (ad242.add ((x5_1).toNat * 9)) = some (.string ((rd_T39 l0 x5_1).f0)) ∧ w'.cell? ⟨(ad242.add ((x5_1).toNat * 9)).block, (ad242.add ((x5_1).toNat * 9)).off + 1, none⟩ = some (.bool ((rd_T39 l0 x5_1).f1)) ∧ w'.cell? ⟨(ad242.add ((x5_1).toNat * 9)).block, (ad242.add ((x5_1).toNat * 9)).off + 2, none⟩ = some (.slice A242_2 ((rd_T39 l0 x5_1).f2).length c242_2) ∧ w'.cell? ⟨(ad242.add ((x5_1).toNat * 9)).block, (ad242.add ((x5_1).toNat * 9)).off + 3, none⟩ = some (.int .i64 ((rd_T39 l0 x5_1).f3)) ∧ w'.cell? ⟨(ad242.add ((x5_1).toNat * 9)).block, (ad242.add ((x5_1).toNat * 9)).off + 4, none⟩ = some (.int .i64 ((rd_T39 l0 x5_1).f4)) ∧ w'.cell? ⟨(ad242.add ((x5_1).toNat * 9)).block, (ad242.add ((x5_1).toNat * 9)).off + 5, none⟩ = some (.int .i64 ((rd_T39 l0 x5_1).f5)) ∧ w'.cell? ⟨(ad242.add ((x5_1).toNat * 9)).block, (ad242.add ((x5_1).toNat * 9)).off + 6, none⟩ = some (.string ((rd_T39 l0 x5_1).f6)) ∧ w'.cell? ⟨(ad242.add ((x5_1).toNat * 9)).block, (ad242.add ((x5_1).toNat * 9)).off + 7, none⟩ = some (.int .i64 ((rd_T39 l0 x5_1).f7)) ∧ w'.cell? ⟨(ad242.add ((x5_1).toNat * 9)).block, (ad242.add ((x5_1).toNat * 9)).off + 8, none⟩ = some (.int .i64 ((rd_T39 l0 x5_1).f8)) ∧ w'.cell? (ad243.add ((x5_1).toNat * 9)) = some (.string ((rd_T39 l1 x5_1).f0)) ∧ w'.cell? ⟨(ad243.add ((x5_1).toNat * 9)).block, (ad243.add ((x5_1).toNat * 9)).off + 1, none⟩ = some (.bool ((rd_T39 l1 x5_1).f1)) ∧ w'.cell? ⟨(ad243.add ((x5_1).toNat * 9)).block, (ad243.add ((x5_1).toNat * 9)).off + 2, none⟩ = some (.slice A243_2 ((rd_T39 l1 x5_1).f2).length c243_2) ∧ w'.cell? ⟨(ad243.add ((x5_1).toNat * 9)).block, (ad243.add ((x5_1).toNat * 9)).off + 3, none⟩ = some (.int .i64 ((rd_T39 l1 x5_1).f3)) ∧ w'.cell? ⟨(ad243.add ((x5_1).toNat * 9)).block, (ad243.add ((x5_1).toNat * 9)).off + 4, none⟩ = some (.int .i64 ((rd_T39 l1 x5_1).f4)) ∧ w'.cell? ⟨(ad243.add ((x5_1).toNat * 9)).block, (ad243.add ((x5_1).toNat * 9)).off + 5, none⟩ = some (.int .i64 ((rd_T39 l1 x5_1).f5)) ∧ w'.cell? ⟨(ad243.add ((x5_1).toNat * 9)).block, (ad243.add ((x5_1).toNat * 9)).off + 6, none⟩ = some (.string ((rd_T39 l1 x5_1).f6)) ∧ w'.cell? ⟨(ad243.add ((x5_1).toNat * 9)).block, (ad243.add ((x5_1).toNat * 9)).off + 7, none⟩ = some (.int .i64 ((rd_T39 l1 x5_1).f7)) ∧ w'.cell? ⟨(ad243.add ((x5_1).toNat * 9)).block, (ad243.add ((x5_1).toNat * 9)).off + 8, none⟩ = some (.int .i64 ((rd_T39 l1 x5_1).f8))) (ds := []) #[false, false, false, false, false, false, false, false, false, false] (by kernel_rfl) rfl rfl ⟨((HB.out.cell (qbl w _ hw242_0)).trans hw242_0), ((HB.out.cell (qbl w _ hw242_1)).trans hw242_1), ((HB.out.cell (qbl w _ hw242_2)).trans hw242_2), ((HB.out.cell (qbl w _ hw242_3)).trans hw242_3), ((HB.out.cell (qbl w _ hw242_4)).trans hw242_4), ((HB.out.cell (qbl w _ hw242_5)).trans hw242_5), ((HB.out.cell (qbl w _ hw242_6)).trans hw242_6), ((HB.out.cell (qbl w _ hw242_7)).trans hw242_7), ((HB.out.cell (qbl w _ hw242_8)).trans hw242_8), ((HB.out.cell (qbl w _ hw243_0)).trans hw243_0), ((HB.out.cell (qbl w _ hw243_1)).trans hw243_1), ((HB.out.cell (qbl w _ hw243_2)).trans hw243_2), ((HB.out.cell (qbl w _ hw243_3)).trans hw243_3), ((HB.out.cell (qbl w _ hw243_4)).trans hw243_4), ((HB.out.cell (qbl w _ hw243_5)).trans hw243_5), ((HB.out.cell (qbl w _ hw243_6)).trans hw243_6), ((HB.out.cell (qbl w _ hw243_7)).trans hw243_7), ((HB.out.cell (qbl w _ hw243_8)).trans hw243_8)⟩ (fun hHeld => ?_); refine with_tabW portagelaw0_SameEntries.tab6 portagelaw0_SameEntries.bits6 (fun HT_ HW_ => ?_)
        generalize wr.drew = w9 at HB HR242_2 HR243_2 hx242_0 hx242_1 hx242_2 hx242_3 hx242_4 hx242_5 hx242_6 hx242_7 hx242_8 hx243_0 hx243_1 hx243_2 hx243_3 hx243_4 hx243_5 hx243_6 hx243_7 hx243_8 hHeld ⊢
        refine pure_ (i := 0) (N := some 17) (v := ?_) (a' := ?_) #[true, false, false, false, false, false, false, false, false, false] rfl rfl (any_of HT_.out (by kernel_rfl)) (fun _ _ _ h => h) (Or.inl ⟨by rfl, ?_⟩) ?_ ?_
        rotate_left
        ·intro w'
         go_simp
         with_reducible rfl
        rotate_left
        ·simp only [Act.put, qsA, qsB, qsC, i64_w, i32_w, qsD, qsE]
         rfl
        refine pure_ (i := 1) (N := some 18) (v := ?_) (a' := ?_) #[true, true, false, false, false, false, false, false, false, false] rfl rfl (any_of HT_.out (by kernel_rfl)) (fun _ _ _ h => h) (Or.inl ⟨by rfl, ?_⟩) ?_ ?_
        rotate_left
        ·intro w'
         go_simp
         with_reducible rfl
        rotate_left
        ·simp only [Act.put, qsA, qsB, qsC, i64_w, i32_w, qsD, qsE]
         rfl
        refine pure_ (i := 2) (N := some 19) (v := ?_) (a' := ?_) #[true, true, true, false, false, false, false, false, false, false] rfl rfl (any_of HT_.out (by kernel_rfl)) (fun _ _ _ h => h) (Or.inl ⟨by rfl, ?_⟩) ?_ ?_
        rotate_left
        ·intro w'
         go_simp
         with_reducible rfl
        rotate_left
        ·simp only [Act.put, qsA, qsB, qsC, i64_w, i32_w, qsD, qsE]
         rfl
        refine pure_ (i := 4) (N := some 21) (v := ?_) (a' := ?_) #[true, true, true, false, true, false, false, false, false, false] rfl rfl (any_of HT_.out (by kernel_rfl)) (fun _ _ _ h => h) (Or.inl ⟨by rfl, ?_⟩) ?_ ?_
        rotate_left
        ·intro w'
         go_simp
         with_reducible rfl
        rotate_left
        ·simp only [Act.put, qsA, qsB, qsC, i64_w, i32_w, qsD, qsE]
         rfl
        refine pure_ (i := 5) (N := some 22) (v := ?_) (a' := ?_) #[true, true, true, false, true, true, false, false, false, false] rfl rfl (any_of HT_.out (by kernel_rfl)) (fun _ _ _ h => h) (Or.inl ⟨by rfl, ?_⟩) ?_ ?_
        rotate_left
        ·intro w'
         go_simp
         with_reducible rfl
        rotate_left
        ·simp only [Act.put, qsA, qsB, qsC, i64_w, i32_w, qsD, qsE]
         rfl
        refine pure_ (i := 6) (N := some 23) (v := ?_) (a' := ?_) #[true, true, true, false, true, true, true, false, false, false] rfl rfl (any_of HT_.out (by kernel_rfl)) (fun _ _ _ h => h) (Or.inl ⟨by rfl, ?_⟩) ?_ ?_
        rotate_left
        ·intro w'
         go_simp
         with_reducible rfl
        rotate_left
        ·simp only [Act.put, qsA, qsB, qsC, i64_w, i32_w, qsD, qsE]
         rfl
        refine take_ (i := 3) (N := some 20) (v := ?_) (a' := ?_) #[true, true, true, true, true, true, true, false, false, false] rfl rfl (take_ofW HT_.out HW_.out (by kernel_rfl)) (fun _ _ _ h => h) (Or.inl ⟨by rfl, ?_⟩) hHeld ?_ ?_
        rotate_left
        ·rintro w' ⟨s0, s1, s2, s3, s4, s5, s6, s7, s8, s9, s10, s11, s12, s13, s14, s15, s16, s17⟩
         go_simp
         with_reducible rfl
        rotate_left
        ·simp only [Act.put, qsA, qsB, qsC, i64_w, i32_w, qsD, qsE]
         rfl
        refine take_ (i := 7) (N := some 24) (v := ?_) (a' := ?_) #[true, true, true, true, true, true, true, true, false, false] rfl rfl (take_ofW HT_.out HW_.out (by kernel_rfl)) (fun _ _ _ h => h) (Or.inl ⟨by rfl, ?_⟩) hHeld ?_ ?_
        rotate_left
        ·rintro w' ⟨s0, s1, s2, s3, s4, s5, s6, s7, s8, s9, s10, s11, s12, s13, s14, s15, s16, s17⟩
         go_simp
         with_reducible rfl
        rotate_left
        ·simp only [Act.put, qsA, qsB, qsC, i64_w, i32_w, qsD, qsE]
         rfl
        refine one_ (i := 8) (N := some 25) #[true, true, true, true, true, true, true, true, true, false] rfl rfl (one_of HT_.out (by kernel_rfl)) (by decide) (fun K hK => ?_)
        refine goes_ Tryd.func88 (by kernel_rfl) rfl #[.agg #[.string ((rd_T39 l0 x5_1).f0), .bool ((rd_T39 l0 x5_1).f1), .slice A242_2 ((rd_T39 l0 x5_1).f2).length c242_2, .int .i64 ((rd_T39 l0 x5_1).f3), .int .i64 ((rd_T39 l0 x5_1).f4), .int .i64 ((rd_T39 l0 x5_1).f5), .string ((rd_T39 l0 x5_1).f6), .int .i64 ((rd_T39 l0 x5_1).f7), .int .i64 ((rd_T39 l0 x5_1).f8)], .agg #[.string ((rd_T39 l1 x5_1).f0), .bool ((rd_T39 l1 x5_1).f1), .slice A243_2 ((rd_T39 l1 x5_1).f2).length c243_2, .int .i64 ((rd_T39 l1 x5_1).f3), .int .i64 ((rd_T39 l1 x5_1).f4), .int .i64 ((rd_T39 l1 x5_1).f5), .string ((rd_T39 l1 x5_1).f6), .int .i64 ((rd_T39 l1 x5_1).f7), .int .i64 ((rd_T39 l1 x5_1).f8)]] (by rfl) rfl rfl (by (try simp only [List.map_toArray, List.map_cons, List.map_nil]); first | done | rfl | (simp only [List.length_drop, List.length_take]; rfl)) ?_
        with_reducible refine (portagelaw0_SameEntry.calls k1 ((rd_T39 l0 x5_1).f0) ((rd_T39 l0 x5_1).f1) _ _ ((rd_T39 l0 x5_1).f2) ((rd_T39 l0 x5_1).f3) ((rd_T39 l0 x5_1).f4) ((rd_T39 l0 x5_1).f5) ((rd_T39 l0 x5_1).f6) ((rd_T39 l0 x5_1).f7) ((rd_T39 l0 x5_1).f8) ((rd_T39 l1 x5_1).f0) ((rd_T39 l1 x5_1).f1) _ _ ((rd_T39 l1 x5_1).f2) ((rd_T39 l1 x5_1).f3) ((rd_T39 l1 x5_1).f4) ((rd_T39 l1 x5_1).f5) ((rd_T39 l1 x5_1).f6) ((rd_T39 l1 x5_1).f7) ((rd_T39 l1 x5_1).f8) true _ ?side1 ?side2 ?side3 ?side4 A7.out).mono ?_
        (case side1 => repeat (first | exact (Kd.C_below HR242_2.out HB.out) | (with_reducible refine Kd.C_alloc ?_ _) | (with_reducible refine Kd.C_drewN ?_ _) | (with_reducible refine Kd.C_drew ?_)))
        (case side2 => exact HC242_2.out)
        (case side3 => repeat (first | exact (Kd.C_below HR243_2.out HB.out) | (with_reducible refine Kd.C_alloc ?_ _) | (with_reducible refine Kd.C_drewN ?_ _) | (with_reducible refine Kd.C_drew ?_)))
        (case side4 => exact HC243_2.out)
        rintro e w10 ⟨rfl, hb⟩
        refine ⟨_, rfl, ?_⟩
        have n0_ := qas (below_step (by repeat (first | (with_reducible first | exact HB.out | apply qbA | apply qbB | apply qbC) | exact HB.out)) hb)
        clear HB
        have HB := n0_
        clear n0_
        (try clear hb)
        (try clear hb2)
        (try clear hk)
        (try clear hi)
        refine hK.out _ _ ⟨((HB.out.cell (qbl w _ hw242_0)).trans hw242_0), ((HB.out.cell (qbl w _ hw242_1)).trans hw242_1), ((HB.out.cell (qbl w _ hw242_2)).trans hw242_2), ((HB.out.cell (qbl w _ hw242_3)).trans hw242_3), ((HB.out.cell (qbl w _ hw242_4)).trans hw242_4), ((HB.out.cell (qbl w _ hw242_5)).trans hw242_5), ((HB.out.cell (qbl w _ hw242_6)).trans hw242_6), ((HB.out.cell (qbl w _ hw242_7)).trans hw242_7), ((HB.out.cell (qbl w _ hw242_8)).trans hw242_8), ((HB.out.cell (qbl w _ hw243_0)).trans hw243_0), ((HB.out.cell (qbl w _ hw243_1)).trans hw243_1), ((HB.out.cell (qbl w _ hw243_2)).trans hw243_2), ((HB.out.cell (qbl w _ hw243_3)).trans hw243_3), ((HB.out.cell (qbl w _ hw243_4)).trans hw243_4), ((HB.out.cell (qbl w _ hw243_5)).trans hw243_5), ((HB.out.cell (qbl w _ hw243_6)).trans hw243_6), ((HB.out.cell (qbl w _ hw243_7)).trans hw243_7), ((HB.out.cell (qbl w _ hw243_8)).trans hw243_8)⟩ (fun hHeld => ?_)
        clear hK K
        refine norm_ (a' := ?_) ?_ ?_
        rotate_left
        ·show Act.put _ (some 25) _ = _
         simp only [Act.put, qsA, qsB, qsC, i64_w, i32_w, qsD, qsE]
         rfl
        refine pure_ (i := 9) (N := some 26) (v := ?_) (a' := ?_) #[true, true, true, true, true, true, true, true, true, true] rfl rfl (any_of HT_.out (by kernel_rfl)) (fun _ _ _ h => h) (Or.inl ⟨by rfl, ?_⟩) ?_ ?_
        rotate_left
        ·intro w'
         go_simp
         with_reducible rfl
        rotate_left
        ·simp only [Act.put, qsA, qsB, qsC, i64_w, i32_w, qsD, qsE]
         rfl
        refine done_ (done_of HT_.out (by kernel_rfl)) ?_
        try go_wp2
        go_roundg k1
        case measure => have := HK1.out; omega
        case rel => exact ⟨(wrap64 (x5_1 + 1)), (by first | rfl | (simp; done) | (simp [*]; done)), H', ⟨by have := HK1.out; omega⟩, ⟨by repeat (first | (with_reducible first | exact HB.out | apply qbA | apply qbB | apply qbC) | exact HB.out)⟩⟩
       ·replace c8 := Bool.eq_false_iff.mpr c8
        subst c8
        have H1 : (some false) = some r := by rw [if_neg (show ¬ (false = true) by decide)] at H; exact H
        clear H
        have H := H1
        clear H1
        obtain rfl := Option.some.inj H
        try go_wp2
        have n0_ := qas (qbC HB.out)
        clear HB
        have HB := n0_
        clear n0_
        have p242 : 0 ≤ (x5_1 : Int) := qde (by first | (with_reducible assumption) | assumption)
        have q242 : x5_1 < (l0.length : Int) := qde (by first | (with_reducible assumption) | assumption)
        obtain ⟨ad242, A242_2, c242_2, e242, hx242_0, hx242_1, hx242_2, hx242_3, hx242_4, hx242_5, hx242_6, hx242_7, hx242_8, hl242_2, hi242_2⟩ := at_T39 HR0.out x5_1 p242 q242
        have hw242_8 := hx242_8
        have hw242_7 := hx242_7
        have hw242_6 := hx242_6
        have hw242_5 := hx242_5
        have hw242_4 := hx242_4
        have hw242_3 := hx242_3
        have hw242_2 := hx242_2
        have hw242_1 := hx242_1
        have hw242_0 := hx242_0
        cases e242
        replace hx242_0 := (HB.out.cell (qbl w _ hx242_0)).trans hx242_0
        replace hx242_1 := (HB.out.cell (qbl w _ hx242_1)).trans hx242_1
        replace hx242_2 := (HB.out.cell (qbl w _ hx242_2)).trans hx242_2
        replace hx242_3 := (HB.out.cell (qbl w _ hx242_3)).trans hx242_3
        replace hx242_4 := (HB.out.cell (qbl w _ hx242_4)).trans hx242_4
        replace hx242_5 := (HB.out.cell (qbl w _ hx242_5)).trans hx242_5
        replace hx242_6 := (HB.out.cell (qbl w _ hx242_6)).trans hx242_6
        replace hx242_7 := (HB.out.cell (qbl w _ hx242_7)).trans hx242_7
        replace hx242_8 := (HB.out.cell (qbl w _ hx242_8)).trans hx242_8
        have HR242_2 := qas hi242_2
        have HC242_2 := qas hl242_2
        clear hi242_2 hl242_2
        replace p242 := eq_true p242
        replace q242 := eq_true q242
        have p243 : 0 ≤ (x5_1 : Int) := qde (by first | (with_reducible assumption) | assumption)
        have q243 : x5_1 < (l1.length : Int) := qde (by first | (with_reducible assumption) | assumption)
        obtain ⟨ad243, A243_2, c243_2, e243, hx243_0, hx243_1, hx243_2, hx243_3, hx243_4, hx243_5, hx243_6, hx243_7, hx243_8, hl243_2, hi243_2⟩ := at_T39 HR1.out x5_1 p243 q243
        have hw243_8 := hx243_8
        have hw243_7 := hx243_7
        have hw243_6 := hx243_6
        have hw243_5 := hx243_5
        have hw243_4 := hx243_4
        have hw243_3 := hx243_3
        have hw243_2 := hx243_2
        have hw243_1 := hx243_1
        have hw243_0 := hx243_0
        cases e243
        replace hx243_0 := (HB.out.cell (qbl w _ hx243_0)).trans hx243_0
        replace hx243_1 := (HB.out.cell (qbl w _ hx243_1)).trans hx243_1
        replace hx243_2 := (HB.out.cell (qbl w _ hx243_2)).trans hx243_2
        replace hx243_3 := (HB.out.cell (qbl w _ hx243_3)).trans hx243_3
        replace hx243_4 := (HB.out.cell (qbl w _ hx243_4)).trans hx243_4
        replace hx243_5 := (HB.out.cell (qbl w _ hx243_5)).trans hx243_5
        replace hx243_6 := (HB.out.cell (qbl w _ hx243_6)).trans hx243_6
        replace hx243_7 := (HB.out.cell (qbl w _ hx243_7)).trans hx243_7
        replace hx243_8 := (HB.out.cell (qbl w _ hx243_8)).trans hx243_8
        have HR243_2 := qas hi243_2
        have HC243_2 := qas hl243_2
        clear hi243_2 hl243_2
        replace p243 := eq_true p243
        replace q243 := eq_true q243
        refine start_ (n := 10) (S := fun w' => w'.cell? (ad242.add ((x5_1).toNat * 9)) = some (.string ((rd_T39 l0 x5_1).f0)) ∧ w'.cell? ⟨(ad242.add ((x5_1).toNat * 9)).block, (ad242.add ((x5_1).toNat * 9)).off + 1, none⟩ = some (.bool ((rd_T39 l0 x5_1).f1)) ∧ w'.cell? ⟨(ad242.add ((x5_1).toNat * 9)).block, (ad242.add ((x5_1).toNat * 9)).off + 2, none⟩ = some (.slice A242_2 ((rd_T39 l0 x5_1).f2).length c242_2) ∧ w'.cell? ⟨(ad242.add ((x5_1).toNat * 9)).block, (ad242.add ((x5_1).toNat * 9)).off + 3, none⟩ = some (.int .i64 ((rd_T39 l0 x5_1).f3)) ∧ w'.cell? ⟨(ad242.add ((x5_1).toNat * 9)).block, (ad242.add ((x5_1).toNat * 9)).off + 4, none⟩ = some (.int .i64 ((rd_T39 l0 x5_1).f4)) ∧ w'.cell? ⟨(ad242.add ((x5_1).toNat * 9)).block, (ad242.add ((x5_1).toNat * 9)).off + 5, none⟩ = some (.int .i64 ((rd_T39 l0 x5_1).f5)) ∧ w'.cell? ⟨(ad242.add ((x5_1).toNat * 9)).block, (ad242.add ((x5_1).toNat * 9)).off + 6, none⟩ = some (.string ((rd_T39 l0 x5_1).f6)) ∧ w'.cell? ⟨(ad242.add ((x5_1).toNat * 9)).block, (ad242.add ((x5_1).toNat * 9)).off + 7, none⟩ = some (.int .i64 ((rd_T39 l0 x5_1).f7)) ∧ w'.cell? ⟨(ad242.add ((x5_1).toNat * 9)).block, (ad242.add ((x5_1).toNat * 9)).off + 8, none⟩ = some (.int .i64 ((rd_T39 l0 x5_1).f8)) ∧ w'.cell? (ad243.add ((x5_1).toNat * 9)) = some (.string ((rd_T39 l1 x5_1).f0)) ∧ w'.cell? ⟨(ad243.add ((x5_1).toNat * 9)).block, (ad243.add ((x5_1).toNat * 9)).off + 1, none⟩ = some (.bool ((rd_T39 l1 x5_1).f1)) ∧ w'.cell? ⟨(ad243.add ((x5_1).toNat * 9)).block, (ad243.add ((x5_1).toNat * 9)).off + 2, none⟩ = some (.slice A243_2 ((rd_T39 l1 x5_1).f2).length c243_2) ∧ w'.cell? ⟨(ad243.add ((x5_1).toNat * 9)).block, (ad243.add ((x5_1).toNat * 9)).off + 3, none⟩ = some (.int .i64 ((rd_T39 l1 x5_1).f3)) ∧ w'.cell? ⟨(ad243.add ((x5_1).toNat * 9)).block, (ad243.add ((x5_1).toNat * 9)).off + 4, none⟩ = some (.int .i64 ((rd_T39 l1 x5_1).f4)) ∧ w'.cell? ⟨(ad243.add ((x5_1).toNat * 9)).block, (ad243.add ((x5_1).toNat * 9)).off + 5, none⟩ = some (.int .i64 ((rd_T39 l1 x5_1).f5)) ∧ w'.cell? ⟨(ad243.add ((x5_1).toNat * 9)).block, (ad243.add ((x5_1).toNat * 9)).off + 6, none⟩ = some (.string ((rd_T39 l1 x5_1).f6)) ∧ w'.cell? ⟨(ad243.add ((x5_1).toNat * 9)).block, (ad243.add ((x5_1).toNat * 9)).off + 7, none⟩ = some (.int .i64 ((rd_T39 l1 x5_1).f7)) ∧ w'.cell? ⟨(ad243.add ((x5_1).toNat * 9)).block, (ad243.add ((x5_1).toNat * 9)).off + 8, none⟩ = some (.int .i64 ((rd_T39 l1 x5_1).f8))) (ds := []) #[false, false, false, false, false, false, false, false, false, false] (by kernel_rfl) rfl rfl ⟨((HB.out.cell (qbl w _ hw242_0)).trans hw242_0), ((HB.out.cell (qbl w _ hw242_1)).trans hw242_1), ((HB.out.cell (qbl w _ hw242_2)).trans hw242_2), ((HB.out.cell (qbl w _ hw242_3)).trans hw242_3), ((HB.out.cell (qbl w _ hw242_4)).trans hw242_4), ((HB.out.cell (qbl w _ hw242_5)).trans hw242_5), ((HB.out.cell (qbl w _ hw242_6)).trans hw242_6), ((HB.out.cell (qbl w _ hw242_7)).trans hw242_7), ((HB.out.cell (qbl w _ hw242_8)).trans hw242_8), ((HB.out.cell (qbl w _ hw243_0)).trans hw243_0), ((HB.out.cell (qbl w _ hw243_1)).trans hw243_1), ((HB.out.cell (qbl w _ hw243_2)).trans hw243_2), ((HB.out.cell (qbl w _ hw243_3)).trans hw243_3), ((HB.out.cell (qbl w _ hw243_4)).trans hw243_4), ((HB.out.cell (qbl w _ hw243_5)).trans hw243_5), ((HB.out.cell (qbl w _ hw243_6)).trans hw243_6), ((HB.out.cell (qbl w _ hw243_7)).trans hw243_7), ((HB.out.cell (qbl w _ hw243_8)).trans hw243_8)⟩ (fun hHeld => ?_); refine with_tabW portagelaw0_SameEntries.tab6 portagelaw0_SameEntries.bits6 (fun HT_ HW_ => ?_)
        generalize wr.drew = w11 at HB HR242_2 HR243_2 hx242_0 hx242_1 hx242_2 hx242_3 hx242_4 hx242_5 hx242_6 hx242_7 hx242_8 hx243_0 hx243_1 hx243_2 hx243_3 hx243_4 hx243_5 hx243_6 hx243_7 hx243_8 hHeld ⊢
        refine pure_ (i := 0) (N := some 17) (v := ?_) (a' := ?_) #[true, false, false, false, false, false, false, false, false, false] rfl rfl (any_of HT_.out (by kernel_rfl)) (fun _ _ _ h => h) (Or.inl ⟨by rfl, ?_⟩) ?_ ?_
        rotate_left
        ·intro w'
         go_simp
         with_reducible rfl
        rotate_left
        ·simp only [Act.put, qsA, qsB, qsC, i64_w, i32_w, qsD, qsE]
         rfl
        refine pure_ (i := 1) (N := some 18) (v := ?_) (a' := ?_) #[true, true, false, false, false, false, false, false, false, false] rfl rfl (any_of HT_.out (by kernel_rfl)) (fun _ _ _ h => h) (Or.inl ⟨by rfl, ?_⟩) ?_ ?_
        rotate_left
        ·intro w'
         go_simp
         with_reducible rfl
        rotate_left
        ·simp only [Act.put, qsA, qsB, qsC, i64_w, i32_w, qsD, qsE]
         rfl
        refine pure_ (i := 2) (N := some 19) (v := ?_) (a' := ?_) #[true, true, true, false, false, false, false, false, false, false] rfl rfl (any_of HT_.out (by kernel_rfl)) (fun _ _ _ h => h) (Or.inl ⟨by rfl, ?_⟩) ?_ ?_
        rotate_left
        ·intro w'
         go_simp
         with_reducible rfl
        rotate_left
        ·simp only [Act.put, qsA, qsB, qsC, i64_w, i32_w, qsD, qsE]
         rfl
        refine pure_ (i := 4) (N := some 21) (v := ?_) (a' := ?_) #[true, true, true, false, true, false, false, false, false, false] rfl rfl (any_of HT_.out (by kernel_rfl)) (fun _ _ _ h => h) (Or.inl ⟨by rfl, ?_⟩) ?_ ?_
        rotate_left
        ·intro w'
         go_simp
         with_reducible rfl
        rotate_left
        ·simp only [Act.put, qsA, qsB, qsC, i64_w, i32_w, qsD, qsE]
         rfl
        refine pure_ (i := 5) (N := some 22) (v := ?_) (a' := ?_) #[true, true, true, false, true, true, false, false, false, false] rfl rfl (any_of HT_.out (by kernel_rfl)) (fun _ _ _ h => h) (Or.inl ⟨by rfl, ?_⟩) ?_ ?_
        rotate_left
        ·intro w'
         go_simp
         with_reducible rfl
        rotate_left
        ·simp only [Act.put, qsA, qsB, qsC, i64_w, i32_w, qsD, qsE]
         rfl
        refine pure_ (i := 6) (N := some 23) (v := ?_) (a' := ?_) #[true, true, true, false, true, true, true, false, false, false] rfl rfl (any_of HT_.out (by kernel_rfl)) (fun _ _ _ h => h) (Or.inl ⟨by rfl, ?_⟩) ?_ ?_
        rotate_left
        ·intro w'
         go_simp
         with_reducible rfl
        rotate_left
        ·simp only [Act.put, qsA, qsB, qsC, i64_w, i32_w, qsD, qsE]
         rfl
        refine take_ (i := 3) (N := some 20) (v := ?_) (a' := ?_) #[true, true, true, true, true, true, true, false, false, false] rfl rfl (take_ofW HT_.out HW_.out (by kernel_rfl)) (fun _ _ _ h => h) (Or.inl ⟨by rfl, ?_⟩) hHeld ?_ ?_
        rotate_left
        ·rintro w' ⟨s0, s1, s2, s3, s4, s5, s6, s7, s8, s9, s10, s11, s12, s13, s14, s15, s16, s17⟩
         go_simp
         with_reducible rfl
        rotate_left
        ·simp only [Act.put, qsA, qsB, qsC, i64_w, i32_w, qsD, qsE]
         rfl
        refine take_ (i := 7) (N := some 24) (v := ?_) (a' := ?_) #[true, true, true, true, true, true, true, true, false, false] rfl rfl (take_ofW HT_.out HW_.out (by kernel_rfl)) (fun _ _ _ h => h) (Or.inl ⟨by rfl, ?_⟩) hHeld ?_ ?_
        rotate_left
        ·rintro w' ⟨s0, s1, s2, s3, s4, s5, s6, s7, s8, s9, s10, s11, s12, s13, s14, s15, s16, s17⟩
         go_simp
         with_reducible rfl
        rotate_left
        ·simp only [Act.put, qsA, qsB, qsC, i64_w, i32_w, qsD, qsE]
         rfl
        refine one_ (i := 8) (N := some 25) #[true, true, true, true, true, true, true, true, true, false] rfl rfl (one_of HT_.out (by kernel_rfl)) (by decide) (fun K hK => ?_)
        refine goes_ Tryd.func88 (by kernel_rfl) rfl #[.agg #[.string ((rd_T39 l0 x5_1).f0), .bool ((rd_T39 l0 x5_1).f1), .slice A242_2 ((rd_T39 l0 x5_1).f2).length c242_2, .int .i64 ((rd_T39 l0 x5_1).f3), .int .i64 ((rd_T39 l0 x5_1).f4), .int .i64 ((rd_T39 l0 x5_1).f5), .string ((rd_T39 l0 x5_1).f6), .int .i64 ((rd_T39 l0 x5_1).f7), .int .i64 ((rd_T39 l0 x5_1).f8)], .agg #[.string ((rd_T39 l1 x5_1).f0), .bool ((rd_T39 l1 x5_1).f1), .slice A243_2 ((rd_T39 l1 x5_1).f2).length c243_2, .int .i64 ((rd_T39 l1 x5_1).f3), .int .i64 ((rd_T39 l1 x5_1).f4), .int .i64 ((rd_T39 l1 x5_1).f5), .string ((rd_T39 l1 x5_1).f6), .int .i64 ((rd_T39 l1 x5_1).f7), .int .i64 ((rd_T39 l1 x5_1).f8)]] (by rfl) rfl rfl (by (try simp only [List.map_toArray, List.map_cons, List.map_nil]); first | done | rfl | (simp only [List.length_drop, List.length_take]; rfl)) ?_
        with_reducible refine (portagelaw0_SameEntry.calls k1 ((rd_T39 l0 x5_1).f0) ((rd_T39 l0 x5_1).f1) _ _ ((rd_T39 l0 x5_1).f2) ((rd_T39 l0 x5_1).f3) ((rd_T39 l0 x5_1).f4) ((rd_T39 l0 x5_1).f5) ((rd_T39 l0 x5_1).f6) ((rd_T39 l0 x5_1).f7) ((rd_T39 l0 x5_1).f8) ((rd_T39 l1 x5_1).f0) ((rd_T39 l1 x5_1).f1) _ _ ((rd_T39 l1 x5_1).f2) ((rd_T39 l1 x5_1).f3) ((rd_T39 l1 x5_1).f4) ((rd_T39 l1 x5_1).f5) ((rd_T39 l1 x5_1).f6) ((rd_T39 l1 x5_1).f7) ((rd_T39 l1 x5_1).f8) false _ ?side1 ?side2 ?side3 ?side4 A7.out).mono ?_
        (case side1 => repeat (first | exact (Kd.C_below HR242_2.out HB.out) | (with_reducible refine Kd.C_alloc ?_ _) | (with_reducible refine Kd.C_drewN ?_ _) | (with_reducible refine Kd.C_drew ?_)))
        (case side2 => exact HC242_2.out)
        (case side3 => repeat (first | exact (Kd.C_below HR243_2.out HB.out) | (with_reducible refine Kd.C_alloc ?_ _) | (with_reducible refine Kd.C_drewN ?_ _) | (with_reducible refine Kd.C_drew ?_)))
        (case side4 => exact HC243_2.out)
        rintro e w12 ⟨rfl, hb⟩
        refine ⟨_, rfl, ?_⟩
        have n0_ := qas (below_step (by repeat (first | (with_reducible first | exact HB.out | apply qbA | apply qbB | apply qbC) | exact HB.out)) hb)
        clear HB
        have HB := n0_
        clear n0_
        (try clear hb)
        (try clear hb2)
        (try clear hk)
        (try clear hi)
        refine hK.out _ _ ⟨((HB.out.cell (qbl w _ hw242_0)).trans hw242_0), ((HB.out.cell (qbl w _ hw242_1)).trans hw242_1), ((HB.out.cell (qbl w _ hw242_2)).trans hw242_2), ((HB.out.cell (qbl w _ hw242_3)).trans hw242_3), ((HB.out.cell (qbl w _ hw242_4)).trans hw242_4), ((HB.out.cell (qbl w _ hw242_5)).trans hw242_5), ((HB.out.cell (qbl w _ hw242_6)).trans hw242_6), ((HB.out.cell (qbl w _ hw242_7)).trans hw242_7), ((HB.out.cell (qbl w _ hw242_8)).trans hw242_8), ((HB.out.cell (qbl w _ hw243_0)).trans hw243_0), ((HB.out.cell (qbl w _ hw243_1)).trans hw243_1), ((HB.out.cell (qbl w _ hw243_2)).trans hw243_2), ((HB.out.cell (qbl w _ hw243_3)).trans hw243_3), ((HB.out.cell (qbl w _ hw243_4)).trans hw243_4), ((HB.out.cell (qbl w _ hw243_5)).trans hw243_5), ((HB.out.cell (qbl w _ hw243_6)).trans hw243_6), ((HB.out.cell (qbl w _ hw243_7)).trans hw243_7), ((HB.out.cell (qbl w _ hw243_8)).trans hw243_8)⟩ (fun hHeld => ?_)
        clear hK K
        refine norm_ (a' := ?_) ?_ ?_
        rotate_left
        ·show Act.put _ (some 25) _ = _
         simp only [Act.put, qsA, qsB, qsC, i64_w, i32_w, qsD, qsE]
         rfl
        refine pure_ (i := 9) (N := some 26) (v := ?_) (a' := ?_) #[true, true, true, true, true, true, true, true, true, true] rfl rfl (any_of HT_.out (by kernel_rfl)) (fun _ _ _ h => h) (Or.inl ⟨by rfl, ?_⟩) ?_ ?_
        rotate_left
        ·intro w'
         go_simp
         with_reducible rfl
        rotate_left
        ·simp only [Act.put, qsA, qsB, qsC, i64_w, i32_w, qsD, qsE]
         rfl
        refine done_ (done_of HT_.out (by kernel_rfl)) ?_
        try go_wp2
        go_ret
        exact ⟨by first | rfl | (simp [errW_none, errW_some] <;> rfl) | (simp [*, errW_none, errW_some] <;> rfl), by repeat (first | (with_reducible first | exact HB.out | apply qbA | apply qbB | apply qbC) | exact HB.out)⟩
      ·rw [if_neg c6] at H
       exact absurd H (by simp)
     ·rw [if_neg c5] at H
      exact absurd H (by simp)
    ·rw [if_neg c4] at H
     have c4b0 : decide (x5_1 < (l0.length : Int)) = false := decide_eq_false c4
     clear c4
     obtain rfl := Option.some.inj H
     go_wp2
     go_ret
     exact ⟨by first | rfl | (simp [errW_none, errW_some] <;> rfl) | (simp [*, errW_none, errW_some] <;> rfl), by repeat (first | (with_reducible first | exact HB.out | apply qbA | apply qbB | apply qbC) | exact HB.out)⟩
 ·rw [if_neg c3] at H
  have c3b0 : ((l0.length : Int) == (l1.length : Int)) = false := beq_eq_false_iff_ne.mpr c3
  have c3b1 : ((l0.length : Int) != (l1.length : Int)) = true := bne_iff_ne.mpr c3
  have c3b2 : (l0.length == l1.length) = false := by first | simpa using c3 | (simp at c3 ⊢; omega)
  obtain rfl := Option.some.inj H
  go_enter Tryd.func59, Tryd.ntmps59
  go_wp2
  go_ret
  exact ⟨by first | rfl | (simp [errW_none, errW_some] <;> rfl) | (simp [*, errW_none, errW_some] <;> rfl), by repeat (first | (with_reducible first | exact HB.out | apply qbA | apply qbB | apply qbC) | exact HB.out)⟩

/-! ### portagelaw0_SameFolder: function 24 -/
def portagelaw0_SameFolder.f (k : Nat) (l0_0 : List (S39)) (l1_0 : List (S39)) : Option (Bool) := (portagelaw0_SameEntries.f k l0_0 l1_0).bind fun t247 => (some t247)
theorem portagelaw0_SameFolder.mono : ∀ a0 a1 k, LeO (portagelaw0_SameFolder.f k a0 a1) (portagelaw0_SameFolder.f (k + 1) a0 a1) := by
 intro a0 a1 k
 unfold portagelaw0_SameFolder.f
 repeat' first
   | (with_reducible exact portagelaw0_SameEntries.mono _ _ _)
   | (with_reducible exact LeO.refl _)
   | (with_reducible exact LeO.none _)
   | (with_reducible refine LeO.ite ?_ ?_)
   | (with_reducible refine LeO.bind ?_ (fun _ => ?_))
   | exact portagelaw0_SameEntries.mono _ _ _
   | exact LeO.none _
   | refine LeO.ite ?_ ?_
   | refine LeO.bind ?_ (fun _ => ?_)
set_option maxHeartbeats 8000000 in
set_option maxRecDepth 100000 in
theorem portagelaw0_SameFolder.calls (k : Nat) (A0_0 : Option Addr) (c0_0 : Nat) (l0_0 : List (S39)) (A1_0 : Option Addr) (c1_0 : Nat) (l1_0 : List (S39)) (r : Bool) (w : World) (hr0_0 : Kd.C k39 w A0_0 l0_0.length l0_0) (hc0_0 : l0_0.length ≤ c0_0) (hr1_0 : Kd.C k39 w A1_0 l1_0.length l1_0) (hc1_0 : l1_0.length ≤ c1_0) (h : portagelaw0_SameFolder.f k l0_0 l1_0 = some r) :
  Calls Tryd.prog 24 #[.agg #[.slice A0_0 l0_0.length c0_0], .agg #[.slice A1_0 l1_0.length c1_0]] w fun e w' => e = .returned (.bool r) ∧ Below w.heap.size w w' := by
 have hu24 := Tryd.underlying24
 have HR0_0 := qas hr0_0
 have HC0_0 := qas hc0_0
 clear hr0_0 hc0_0
 have HR1_0 := qas hr1_0
 have HC1_0 := qas hc1_0
 clear hr1_0 hc1_0
 have HB := qas (Below.refl w.heap.size w)
 have H : ((portagelaw0_SameEntries.f k l0_0 l1_0).bind fun t247 => (some t247)) = some r := h
 clear h
 replace H := Option.bind_eq_some_iff.mp H
 obtain ⟨t247, A30, H⟩ := H
 replace H : (some t247) = some r := H
 have A3 := qas A30
 clear A30
 obtain rfl := Option.some.inj H
 go_enter Tryd.func24, Tryd.ntmps24
 go_wp2_with (first | ((with_reducible refine gate_dst (N := 2) rfl ?_); refine box_event ?hg (N := 2) ?hd (cs := #[.slice A0_0 l0_0.length c0_0]) (t := 24) ?hr ?_; (case hd => rfl); (case hg => rfl); (case hr => first | (go_simp; done) | (go_simp; rfl)); intro gb245 hg w4 hbox hb; have n0_ := qas (below_step (by repeat (first | (with_reducible first | exact HB.out | apply qbA | apply qbB | apply qbC) | exact HB.out)) hb); have n1_ := qas (hbox); have n2_ := qas ((by rw [hg]; exact (below_size (by repeat (first | (with_reducible first | exact HB.out | apply qbA | apply qbB | apply qbC) | exact HB.out))) : w.heap.size ≤ gb245)); have n3_ := qas ((by rw [hg]; exact (below_size (by repeat (first | (with_reducible first | exact HB.out | apply qbA | apply qbB | apply qbC) | exact HB.out))) : w.heap.size ≤ gb245)); clear HB; have HB := n0_; have BK245 := n1_; have GW245 := n2_; have GE245 := n3_; clear n0_ n1_ n2_ n3_; clear hb hbox hg) | ((with_reducible refine gate_dst (N := 3) rfl ?_); refine box_event ?hg (N := 3) ?hd (cs := #[.slice A1_0 l1_0.length c1_0]) (t := 24) ?hr ?_; (case hd => rfl); (case hg => rfl); (case hr => first | (go_simp; done) | (go_simp; rfl)); intro gb246 hg w5 hbox hb; have n0_ := qas (blk_below (g := gb245) (o := .cells #[.slice A0_0 l0_0.length c0_0] 24 (0, 0)) (by (with_reducible repeat (first | refine qkA ?_ _ | refine qkB ?_ | refine qkC ?_ _)); exact BK245.out) hb); have n1_ := qas (below_step (by repeat (first | (with_reducible first | exact HB.out | apply qbA | apply qbB | apply qbC | refine below_set ?_ GE245.out) | exact HB.out)) hb); have n2_ := qas (hbox); have n3_ := qas ((by rw [hg]; exact (below_size (by repeat (first | (with_reducible first | exact HB.out | apply qbA | apply qbB | apply qbC | refine below_set ?_ GE245.out) | exact HB.out))) : w.heap.size ≤ gb246)); have n4_ := qas ((by rw [hg]; exact (below_size (by repeat (first | (with_reducible first | exact HB.out | apply qbA | apply qbB | apply qbC | refine below_set ?_ GE245.out) | exact HB.out))) : w.heap.size ≤ gb246)); have n5_ := qas ((by rw [hg]; exact Nat.ne_of_lt (blk_lt (g := gb245) (o := .cells #[.slice A0_0 l0_0.length c0_0] 24 (0, 0)) (by (with_reducible repeat (first | refine qkA ?_ _ | refine qkB ?_ | refine qkC ?_ _)); exact BK245.out)) : gb245 ≠ gb246)); have n6_ := qas ((by rw [hg]; exact Nat.ne_of_gt (blk_lt (g := gb245) (o := .cells #[.slice A0_0 l0_0.length c0_0] 24 (0, 0)) (by (with_reducible repeat (first | refine qkA ?_ _ | refine qkB ?_ | refine qkC ?_ _)); exact BK245.out)) : gb246 ≠ gb245)); clear BK245; clear HB; have BK245 := n0_; have HB := n1_; have BK246 := n2_; have GW246 := n3_; have GE246 := n4_; have NB245_246 := n5_; have NB246_245 := n6_; clear n0_ n1_ n2_ n3_ n4_ n5_ n6_; clear hb hbox hg; have hnb6 := NB245_246.out; have hnc6 := NB246_245.out; have hcz7_0 : w5.cell? ⟨gb245, 0, none⟩ = some (.slice A0_0 l0_0.length c0_0) := (blk_cell BK245.out 0).trans rfl; have hfz7_0 := blk_frozen BK245.out 0; have hcz8_0 : w5.cell? ⟨gb246, 0, none⟩ = some (.slice A1_0 l1_0.length c1_0) := (blk_cell BK246.out 0).trans rfl; have hfz8_0 := blk_frozen BK246.out 0) | ((with_reducible refine gate_callee (f := 59) rfl ?_); refine goesL_ (some 9) rfl rfl Tryd.func59 (by kernel_rfl) rfl #[.slice A0_0 l0_0.length c0_0, .slice A1_0 l1_0.length c1_0] rfl (by (try simp only [List.map_toArray, List.map_cons, List.map_nil]); first | done | rfl | (simp only [List.length_drop, List.length_take]; rfl)) ?_; (with_reducible refine (portagelaw0_SameEntries.calls k _ _ l0_0 _ _ l1_0 t247 _ ?side1 ?side2 ?side3 ?side4 A3.out).mono ?_); (case side1 => repeat (first | exact (Kd.C_below HR0_0.out HB.out) | (with_reducible refine Kd.C_alloc ?_ _) | (with_reducible refine Kd.C_drewN ?_ _) | (with_reducible refine Kd.C_drew ?_))); (case side2 => exact HC0_0.out); (case side3 => repeat (first | exact (Kd.C_below HR1_0.out HB.out) | (with_reducible refine Kd.C_alloc ?_ _) | (with_reducible refine Kd.C_drewN ?_ _) | (with_reducible refine Kd.C_drew ?_))); (case side4 => exact HC1_0.out); rintro e w9 ⟨rfl, hb⟩; refine ⟨_, rfl, ?_⟩; have n0_ := qas (blk_below (g := gb245) (o := .cells #[.slice A0_0 l0_0.length c0_0] 24 (0, 0)) (by (with_reducible repeat (first | refine qkA ?_ _ | refine qkB ?_ | refine qkC ?_ _)); exact BK245.out) hb); have n1_ := qas (blk_below (g := gb246) (o := .cells #[.slice A1_0 l1_0.length c1_0] 24 (0, 0)) (by (with_reducible repeat (first | refine qkA ?_ _ | refine qkB ?_ | refine qkC ?_ _)); exact BK246.out) hb); have n2_ := qas (below_step (by repeat (first | (with_reducible first | exact HB.out | apply qbA | apply qbB | apply qbC | refine below_set ?_ GE245.out | refine below_set ?_ GE246.out) | exact HB.out)) hb); clear BK245; clear BK246; clear HB; have BK245 := n0_; have BK246 := n1_; have HB := n2_; clear n0_ n1_ n2_; (try clear hb); (try clear hb2); (try clear hk); (try clear hi)))
 go_ret
 exact ⟨by first | rfl | (simp [errW_none, errW_some] <;> rfl) | (simp [*, errW_none, errW_some] <;> rfl), by repeat (first | (with_reducible first | exact HB.out | apply qbA | apply qbB | apply qbC | refine below_set ?_ GE245.out | refine below_set ?_ GE246.out) | exact HB.out)⟩

end Go.Proofs.YtneogampbohfnaaDoor.ZG
