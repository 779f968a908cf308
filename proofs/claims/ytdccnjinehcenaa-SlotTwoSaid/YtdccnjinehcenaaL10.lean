-- Written by a program of this session out of the translation (a changed copy of the kit's printer).
import Derived.Test.YtdccnjinehcenaaL0
import Derived.Test.YtdccnjinehcenaaL1
import Derived.Test.YtdccnjinehcenaaL2
import Derived.Test.YtdccnjinehcenaaL3
import Derived.Test.YtdccnjinehcenaaL4
import Derived.Test.YtdccnjinehcenaaL8
namespace Go.Proofs.Ytdccnjinehcenaa.L
open Go.RowKit Go.Proofs.YtdccnjinehcenaaW.PrintWords Go.Proofs.YtdccnjinehcenaaW.PrintLast Go.Proofs.YtdccnjinehcenaaW.PrintMore
attribute [local go_sem] max2_int min2_int max_two min_two max_three min_three max_four min_four   -- for this text's walks alone
set_option linter.unusedVariables false
set_option linter.unusedSimpArgs false

/-! ### portagelaw18_SlotTwo: function 10 -/
mutual
def portagelaw18_SlotTwo.j0 : Nat → Bool → Int → ByteArray → List (S42) → List (S42) → Bool → Option (Bool)
  | 0, _, _, _, _, _, _ => none
  | k + 1, x3, x9, x11, x12, x14, x63 => if x63 = true then (none) else (portagelaw18_SlotTwo.l0 k x3 x9 x11 x12 x14 0)
def portagelaw18_SlotTwo.l0 : Nat → Bool → Int → ByteArray → List (S42) → List (S42) → Int → Option (Bool)
  | 0, _, _, _, _, _, _ => none
  | k + 1, x3, x9, x11, x12, x14, x16 => if x16 < (x12.length : Int) then (portagelaw18_SlotTwo.l1 k x3 x9 x11 x12 x14 x16 0) else (if x3 = true then (portagelaw18_SlotTwo.j3 k x9 x11 x14 x12) else (portagelaw18_SlotTwo.j3 k x9 x11 x12 x14))
def portagelaw18_SlotTwo.l1 : Nat → Bool → Int → ByteArray → List (S42) → List (S42) → Int → Int → Option (Bool)
  | 0, _, _, _, _, _, _, _ => none
  | k + 1, x3, x9, x11, x12, x14, x16, x17 => if x17 < (x14.length : Int) then (if 0 ≤ x16 then (if x16 < (x12.length : Int) then (if 0 ≤ x17 then (if ((rd_T42 x12 x16).f0) = ((rd_T42 x14 x17).f0) then (none) else (portagelaw18_SlotTwo.l1 k x3 x9 x11 x12 x14 x16 (wrap64 (x17 + 1)))) else (none)) else (none)) else (none)) else (portagelaw18_SlotTwo.l0 k x3 x9 x11 x12 x14 (wrap64 (x16 + 1)))
def portagelaw18_SlotTwo.j3 : Nat → Int → ByteArray → List (S42) → List (S42) → Option (Bool)
  | 0, _, _, _, _ => none
  | k + 1, x9, x11, x12, x14 => (portageref17_NewDisk.f k).bind fun t261 => ((portageref17_Run.f k t261 x12 (x12.length : Int) 0).bind fun bt264 => ((portageref17_Run.f k bt264.1 x14 (x14.length : Int) 0).bind fun bt268 => ((slot_Find.f k bt268.1).bind fun bt272 => (if bt264.2 = 0 then (if bt268.2 = 0 then ((portagelaw0_Num.f bt272.2.2).bind fun t275 => (if t275 = 0 then (if bt272.1 = (wrap64 (x9 + 1)) then (some (bt272.2.1.toList == x11.toList)) else (none)) else (none))) else (none)) else (none)))))
end
def portagelaw18_SlotTwo.f (k : Nat) (a0 : Int) (a1 : Int) (a2 : Int) (a3 : Bool) : Option (Bool) := (portagelaw18_awake.f k).bind fun t246 => (if t246 = true then ((portagelaw18_text.f k (wrap64 (Int.tmod (IntKind.u64.wrap (a1)) 4097)) 97).bind fun t247 => ((portagelaw18_text.f k (wrap64 (Int.tmod (IntKind.u64.wrap (a2)) 4097)) 98).bind fun t248 => ((slot_Plan.f k (wrap64 (1 + (wrap64 (Int.tmod (IntKind.u64.wrap (a0)) 1048575)))) t247).bind fun bt249 => ((slot_Plan.f k (wrap64 ((wrap64 (1 + (wrap64 (Int.tmod (IntKind.u64.wrap (a0)) 1048575)))) + 1)) t248).bind fun bt253 => ((portagelaw0_Num.f bt249.2).bind fun t257 => (if t257 = 0 then ((portagelaw0_Num.f bt253.2).bind fun t258 => (portagelaw18_SlotTwo.j0 k a3 (wrap64 (1 + (wrap64 (Int.tmod (IntKind.u64.wrap (a0)) 1048575)))) t248 bt249.1 bt253.1 (t258 != 0))) else (portagelaw18_SlotTwo.j0 k a3 (wrap64 (1 + (wrap64 (Int.tmod (IntKind.u64.wrap (a0)) 1048575)))) t248 bt249.1 bt253.1 true))))))) else (none))
theorem portagelaw18_SlotTwo.mono_l : ∀ k, (∀ y0 y1 y2 y3 y4 y5, LeO (portagelaw18_SlotTwo.j0 k y0 y1 y2 y3 y4 y5) (portagelaw18_SlotTwo.j0 (k + 1) y0 y1 y2 y3 y4 y5)) ∧ (∀ y0 y1 y2 y3 y4 y5, LeO (portagelaw18_SlotTwo.l0 k y0 y1 y2 y3 y4 y5) (portagelaw18_SlotTwo.l0 (k + 1) y0 y1 y2 y3 y4 y5)) ∧ (∀ y0 y1 y2 y3 y4 y5 y6, LeO (portagelaw18_SlotTwo.l1 k y0 y1 y2 y3 y4 y5 y6) (portagelaw18_SlotTwo.l1 (k + 1) y0 y1 y2 y3 y4 y5 y6)) ∧ (∀ y0 y1 y2 y3, LeO (portagelaw18_SlotTwo.j3 k y0 y1 y2 y3) (portagelaw18_SlotTwo.j3 (k + 1) y0 y1 y2 y3))
  | 0 => ⟨fun _ _ _ _ _ _ r h => by simp [portagelaw18_SlotTwo.j0] at h, fun _ _ _ _ _ _ r h => by simp [portagelaw18_SlotTwo.l0] at h, fun _ _ _ _ _ _ _ r h => by simp [portagelaw18_SlotTwo.l1] at h, fun _ _ _ _ r h => by simp [portagelaw18_SlotTwo.j3] at h⟩
  | k + 1 => by
    obtain ⟨ih0, ih1, ih2, ih3⟩ := portagelaw18_SlotTwo.mono_l k
    refine ⟨?_, ?_, ?_, ?_⟩
    · intro y0 y1 y2 y3 y4 y5
      unfold portagelaw18_SlotTwo.j0
      repeat' first
      | (with_reducible exact ih0 _ _ _ _ _ _)
      | (with_reducible exact ih1 _ _ _ _ _ _)
      | (with_reducible exact ih2 _ _ _ _ _ _ _)
      | (with_reducible exact ih3 _ _ _ _)
      | (with_reducible exact portagelaw18_awake.mono _)
      | (with_reducible exact portagelaw18_text.mono _ _ _)
      | (with_reducible exact portageref17_NewDisk.mono _)
      | (with_reducible exact portageref17_Run.mono _ _ _ _ _)
      | (with_reducible exact slot_Find.mono _ _)
      | (with_reducible exact slot_Plan.mono _ _ _)
      | (with_reducible exact LeO.refl _)
      | (with_reducible exact LeO.none _)
      | (with_reducible refine LeO.ite ?_ ?_)
      | (with_reducible refine LeO.bind ?_ (fun _ => ?_))
      | exact ih0 _ _ _ _ _ _
      | exact ih1 _ _ _ _ _ _
      | exact ih2 _ _ _ _ _ _ _
      | exact ih3 _ _ _ _
      | exact portagelaw18_awake.mono _
      | exact portagelaw18_text.mono _ _ _
      | exact portageref17_NewDisk.mono _
      | exact portageref17_Run.mono _ _ _ _ _
      | exact slot_Find.mono _ _
      | exact slot_Plan.mono _ _ _
      | exact LeO.none _
      | refine LeO.ite ?_ ?_
      | refine LeO.bind ?_ (fun _ => ?_)
    · intro y0 y1 y2 y3 y4 y5
      unfold portagelaw18_SlotTwo.l0
      repeat' first
      | (with_reducible exact ih0 _ _ _ _ _ _)
      | (with_reducible exact ih1 _ _ _ _ _ _)
      | (with_reducible exact ih2 _ _ _ _ _ _ _)
      | (with_reducible exact ih3 _ _ _ _)
      | (with_reducible exact portagelaw18_awake.mono _)
      | (with_reducible exact portagelaw18_text.mono _ _ _)
      | (with_reducible exact portageref17_NewDisk.mono _)
      | (with_reducible exact portageref17_Run.mono _ _ _ _ _)
      | (with_reducible exact slot_Find.mono _ _)
      | (with_reducible exact slot_Plan.mono _ _ _)
      | (with_reducible exact LeO.refl _)
      | (with_reducible exact LeO.none _)
      | (with_reducible refine LeO.ite ?_ ?_)
      | (with_reducible refine LeO.bind ?_ (fun _ => ?_))
      | exact ih0 _ _ _ _ _ _
      | exact ih1 _ _ _ _ _ _
      | exact ih2 _ _ _ _ _ _ _
      | exact ih3 _ _ _ _
      | exact portagelaw18_awake.mono _
      | exact portagelaw18_text.mono _ _ _
      | exact portageref17_NewDisk.mono _
      | exact portageref17_Run.mono _ _ _ _ _
      | exact slot_Find.mono _ _
      | exact slot_Plan.mono _ _ _
      | exact LeO.none _
      | refine LeO.ite ?_ ?_
      | refine LeO.bind ?_ (fun _ => ?_)
    · intro y0 y1 y2 y3 y4 y5 y6
      unfold portagelaw18_SlotTwo.l1
      repeat' first
      | (with_reducible exact ih0 _ _ _ _ _ _)
      | (with_reducible exact ih1 _ _ _ _ _ _)
      | (with_reducible exact ih2 _ _ _ _ _ _ _)
      | (with_reducible exact ih3 _ _ _ _)
      | (with_reducible exact portagelaw18_awake.mono _)
      | (with_reducible exact portagelaw18_text.mono _ _ _)
      | (with_reducible exact portageref17_NewDisk.mono _)
      | (with_reducible exact portageref17_Run.mono _ _ _ _ _)
      | (with_reducible exact slot_Find.mono _ _)
      | (with_reducible exact slot_Plan.mono _ _ _)
      | (with_reducible exact LeO.refl _)
      | (with_reducible exact LeO.none _)
      | (with_reducible refine LeO.ite ?_ ?_)
      | (with_reducible refine LeO.bind ?_ (fun _ => ?_))
      | exact ih0 _ _ _ _ _ _
      | exact ih1 _ _ _ _ _ _
      | exact ih2 _ _ _ _ _ _ _
      | exact ih3 _ _ _ _
      | exact portagelaw18_awake.mono _
      | exact portagelaw18_text.mono _ _ _
      | exact portageref17_NewDisk.mono _
      | exact portageref17_Run.mono _ _ _ _ _
      | exact slot_Find.mono _ _
      | exact slot_Plan.mono _ _ _
      | exact LeO.none _
      | refine LeO.ite ?_ ?_
      | refine LeO.bind ?_ (fun _ => ?_)
    · intro y0 y1 y2 y3
      unfold portagelaw18_SlotTwo.j3
      repeat' first
      | (with_reducible exact ih0 _ _ _ _ _ _)
      | (with_reducible exact ih1 _ _ _ _ _ _)
      | (with_reducible exact ih2 _ _ _ _ _ _ _)
      | (with_reducible exact ih3 _ _ _ _)
      | (with_reducible exact portagelaw18_awake.mono _)
      | (with_reducible exact portagelaw18_text.mono _ _ _)
      | (with_reducible exact portageref17_NewDisk.mono _)
      | (with_reducible exact portageref17_Run.mono _ _ _ _ _)
      | (with_reducible exact slot_Find.mono _ _)
      | (with_reducible exact slot_Plan.mono _ _ _)
      | (with_reducible exact LeO.refl _)
      | (with_reducible exact LeO.none _)
      | (with_reducible refine LeO.ite ?_ ?_)
      | (with_reducible refine LeO.bind ?_ (fun _ => ?_))
      | exact ih0 _ _ _ _ _ _
      | exact ih1 _ _ _ _ _ _
      | exact ih2 _ _ _ _ _ _ _
      | exact ih3 _ _ _ _
      | exact portagelaw18_awake.mono _
      | exact portagelaw18_text.mono _ _ _
      | exact portageref17_NewDisk.mono _
      | exact portageref17_Run.mono _ _ _ _ _
      | exact slot_Find.mono _ _
      | exact slot_Plan.mono _ _ _
      | exact LeO.none _
      | refine LeO.ite ?_ ?_
      | refine LeO.bind ?_ (fun _ => ?_)
theorem portagelaw18_SlotTwo.mono : ∀ a0 a1 a2 a3 k, LeO (portagelaw18_SlotTwo.f k a0 a1 a2 a3) (portagelaw18_SlotTwo.f (k + 1) a0 a1 a2 a3) := by
  intro a0 a1 a2 a3 k
  obtain ⟨ih0, ih1, ih2, ih3⟩ := portagelaw18_SlotTwo.mono_l k
  unfold portagelaw18_SlotTwo.f
  repeat' first
      | (with_reducible exact ih0 _ _ _ _ _ _)
      | (with_reducible exact ih1 _ _ _ _ _ _)
      | (with_reducible exact ih2 _ _ _ _ _ _ _)
      | (with_reducible exact ih3 _ _ _ _)
      | (with_reducible exact portagelaw18_awake.mono _)
      | (with_reducible exact portagelaw18_text.mono _ _ _)
      | (with_reducible exact portageref17_NewDisk.mono _)
      | (with_reducible exact portageref17_Run.mono _ _ _ _ _)
      | (with_reducible exact slot_Find.mono _ _)
      | (with_reducible exact slot_Plan.mono _ _ _)
      | (with_reducible exact LeO.refl _)
      | (with_reducible exact LeO.none _)
      | (with_reducible refine LeO.ite ?_ ?_)
      | (with_reducible refine LeO.bind ?_ (fun _ => ?_))
      | exact ih0 _ _ _ _ _ _
      | exact ih1 _ _ _ _ _ _
      | exact ih2 _ _ _ _ _ _ _
      | exact ih3 _ _ _ _
      | exact portagelaw18_awake.mono _
      | exact portagelaw18_text.mono _ _ _
      | exact portageref17_NewDisk.mono _
      | exact portageref17_Run.mono _ _ _ _ _
      | exact slot_Find.mono _ _
      | exact slot_Plan.mono _ _ _
      | exact LeO.none _
      | refine LeO.ite ?_ ?_
      | refine LeO.bind ?_ (fun _ => ?_)
set_option maxHeartbeats 8000000 in
set_option maxRecDepth 100000 in
theorem portagelaw18_SlotTwo.calls (k : Nat) (a0 : Int) (a1 : Int) (a2 : Int) (a3 : Bool) (r : Bool) (w : World) (h : portagelaw18_SlotTwo.f k a0 a1 a2 a3 = some r) :
    Calls Try.prog 10 #[.int .i64 a0, .int .i64 a1, .int .i64 a2, .bool a3] w fun e w' => e = .returned (.bool r) ∧ Below w.heap.size w w' := by
  have HB := Aside0.mk (Below.refl w.heap.size w)
  have H : ((portagelaw18_awake.f k).bind fun t246 => (if t246 = true then ((portagelaw18_text.f k (wrap64 (Int.tmod (IntKind.u64.wrap (a1)) 4097)) 97).bind fun t247 => ((portagelaw18_text.f k (wrap64 (Int.tmod (IntKind.u64.wrap (a2)) 4097)) 98).bind fun t248 => ((slot_Plan.f k (wrap64 (1 + (wrap64 (Int.tmod (IntKind.u64.wrap (a0)) 1048575)))) t247).bind fun bt249 => ((slot_Plan.f k (wrap64 ((wrap64 (1 + (wrap64 (Int.tmod (IntKind.u64.wrap (a0)) 1048575)))) + 1)) t248).bind fun bt253 => ((portagelaw0_Num.f bt249.2).bind fun t257 => (if t257 = 0 then ((portagelaw0_Num.f bt253.2).bind fun t258 => (portagelaw18_SlotTwo.j0 k a3 (wrap64 (1 + (wrap64 (Int.tmod (IntKind.u64.wrap (a0)) 1048575)))) t248 bt249.1 bt253.1 (t258 != 0))) else (portagelaw18_SlotTwo.j0 k a3 (wrap64 (1 + (wrap64 (Int.tmod (IntKind.u64.wrap (a0)) 1048575)))) t248 bt249.1 bt253.1 true))))))) else (none))) = some r := h
  clear h
  replace H := Option.bind_eq_some_iff.mp H
  obtain ⟨t246, A50, H⟩ := H
  replace H : (if t246 = true then ((portagelaw18_text.f k (wrap64 (Int.tmod (IntKind.u64.wrap (a1)) 4097)) 97).bind fun t247 => ((portagelaw18_text.f k (wrap64 (Int.tmod (IntKind.u64.wrap (a2)) 4097)) 98).bind fun t248 => ((slot_Plan.f k (wrap64 (1 + (wrap64 (Int.tmod (IntKind.u64.wrap (a0)) 1048575)))) t247).bind fun bt249 => ((slot_Plan.f k (wrap64 ((wrap64 (1 + (wrap64 (Int.tmod (IntKind.u64.wrap (a0)) 1048575)))) + 1)) t248).bind fun bt253 => ((portagelaw0_Num.f bt249.2).bind fun t257 => (if t257 = 0 then ((portagelaw0_Num.f bt253.2).bind fun t258 => (portagelaw18_SlotTwo.j0 k a3 (wrap64 (1 + (wrap64 (Int.tmod (IntKind.u64.wrap (a0)) 1048575)))) t248 bt249.1 bt253.1 (t258 != 0))) else (portagelaw18_SlotTwo.j0 k a3 (wrap64 (1 + (wrap64 (Int.tmod (IntKind.u64.wrap (a0)) 1048575)))) t248 bt249.1 bt253.1 true))))))) else (none)) = some r := H
  have A5 := Aside0.mk A50
  clear A50
  by_cases c6 : t246 = true
  · subst c6
    have H1 : ((portagelaw18_text.f k (wrap64 (Int.tmod (IntKind.u64.wrap (a1)) 4097)) 97).bind fun t247 => ((portagelaw18_text.f k (wrap64 (Int.tmod (IntKind.u64.wrap (a2)) 4097)) 98).bind fun t248 => ((slot_Plan.f k (wrap64 (1 + (wrap64 (Int.tmod (IntKind.u64.wrap (a0)) 1048575)))) t247).bind fun bt249 => ((slot_Plan.f k (wrap64 ((wrap64 (1 + (wrap64 (Int.tmod (IntKind.u64.wrap (a0)) 1048575)))) + 1)) t248).bind fun bt253 => ((portagelaw0_Num.f bt249.2).bind fun t257 => (if t257 = 0 then ((portagelaw0_Num.f bt253.2).bind fun t258 => (portagelaw18_SlotTwo.j0 k a3 (wrap64 (1 + (wrap64 (Int.tmod (IntKind.u64.wrap (a0)) 1048575)))) t248 bt249.1 bt253.1 (t258 != 0))) else (portagelaw18_SlotTwo.j0 k a3 (wrap64 (1 + (wrap64 (Int.tmod (IntKind.u64.wrap (a0)) 1048575)))) t248 bt249.1 bt253.1 true))))))) = some r := by rw [if_pos rfl] at H; exact H
    clear H
    have H := H1
    clear H1
    replace H := Option.bind_eq_some_iff.mp H
    obtain ⟨t247, A70, H⟩ := H
    replace H : ((portagelaw18_text.f k (wrap64 (Int.tmod (IntKind.u64.wrap (a2)) 4097)) 98).bind fun t248 => ((slot_Plan.f k (wrap64 (1 + (wrap64 (Int.tmod (IntKind.u64.wrap (a0)) 1048575)))) t247).bind fun bt249 => ((slot_Plan.f k (wrap64 ((wrap64 (1 + (wrap64 (Int.tmod (IntKind.u64.wrap (a0)) 1048575)))) + 1)) t248).bind fun bt253 => ((portagelaw0_Num.f bt249.2).bind fun t257 => (if t257 = 0 then ((portagelaw0_Num.f bt253.2).bind fun t258 => (portagelaw18_SlotTwo.j0 k a3 (wrap64 (1 + (wrap64 (Int.tmod (IntKind.u64.wrap (a0)) 1048575)))) t248 bt249.1 bt253.1 (t258 != 0))) else (portagelaw18_SlotTwo.j0 k a3 (wrap64 (1 + (wrap64 (Int.tmod (IntKind.u64.wrap (a0)) 1048575)))) t248 bt249.1 bt253.1 true)))))) = some r := H
    have A7 := Aside0.mk A70
    clear A70
    replace H := Option.bind_eq_some_iff.mp H
    obtain ⟨t248, A80, H⟩ := H
    replace H : ((slot_Plan.f k (wrap64 (1 + (wrap64 (Int.tmod (IntKind.u64.wrap (a0)) 1048575)))) t247).bind fun bt249 => ((slot_Plan.f k (wrap64 ((wrap64 (1 + (wrap64 (Int.tmod (IntKind.u64.wrap (a0)) 1048575)))) + 1)) t248).bind fun bt253 => ((portagelaw0_Num.f bt249.2).bind fun t257 => (if t257 = 0 then ((portagelaw0_Num.f bt253.2).bind fun t258 => (portagelaw18_SlotTwo.j0 k a3 (wrap64 (1 + (wrap64 (Int.tmod (IntKind.u64.wrap (a0)) 1048575)))) t248 bt249.1 bt253.1 (t258 != 0))) else (portagelaw18_SlotTwo.j0 k a3 (wrap64 (1 + (wrap64 (Int.tmod (IntKind.u64.wrap (a0)) 1048575)))) t248 bt249.1 bt253.1 true))))) = some r := H
    have A8 := Aside0.mk A80
    clear A80
    replace H := Option.bind_eq_some_iff.mp H
    obtain ⟨⟨t249, t250⟩, A90, H⟩ := H
    replace H : ((slot_Plan.f k (wrap64 ((wrap64 (1 + (wrap64 (Int.tmod (IntKind.u64.wrap (a0)) 1048575)))) + 1)) t248).bind fun bt253 => ((portagelaw0_Num.f t250).bind fun t257 => (if t257 = 0 then ((portagelaw0_Num.f bt253.2).bind fun t258 => (portagelaw18_SlotTwo.j0 k a3 (wrap64 (1 + (wrap64 (Int.tmod (IntKind.u64.wrap (a0)) 1048575)))) t248 t249 bt253.1 (t258 != 0))) else (portagelaw18_SlotTwo.j0 k a3 (wrap64 (1 + (wrap64 (Int.tmod (IntKind.u64.wrap (a0)) 1048575)))) t248 t249 bt253.1 true)))) = some r := H
    have A9 := Aside0.mk A90
    clear A90
    replace H := Option.bind_eq_some_iff.mp H
    obtain ⟨⟨t253, t254⟩, A100, H⟩ := H
    replace H : ((portagelaw0_Num.f t250).bind fun t257 => (if t257 = 0 then ((portagelaw0_Num.f t254).bind fun t258 => (portagelaw18_SlotTwo.j0 k a3 (wrap64 (1 + (wrap64 (Int.tmod (IntKind.u64.wrap (a0)) 1048575)))) t248 t249 t253 (t258 != 0))) else (portagelaw18_SlotTwo.j0 k a3 (wrap64 (1 + (wrap64 (Int.tmod (IntKind.u64.wrap (a0)) 1048575)))) t248 t249 t253 true))) = some r := H
    have A10 := Aside0.mk A100
    clear A100
    have HC11 := Aside0.mk H
    clear H
    go_enter Try.func10, Try.ntmps10
    go_upto_region 7 with (first | (go_at_call 31; (with_reducible refine (portagelaw18_awake.calls k  true _ A5.out).mono ?_); rintro e w12 ⟨rfl, hb⟩; have n0_ := Aside0.mk (below_step (by repeat (first | (with_reducible first | exact HB.out | apply below_alloc | apply pw_below_drewN | apply below_drew1) | exact HB.out)) hb); clear HB; have HB := n0_; clear n0_; (try clear hb); (try clear hb2); (try clear hk); (try clear hi)) | (go_at_call 32; (with_reducible refine (portagelaw18_text.calls k (wrap64 (Int.tmod (IntKind.u64.wrap (a1)) 4097)) 97 t247 _ A7.out).mono ?_); rintro e w13 ⟨rfl, hb⟩; have n0_ := Aside0.mk (below_step (by repeat (first | (with_reducible first | exact HB.out | apply below_alloc | apply pw_below_drewN | apply below_drew1) | exact HB.out)) hb); clear HB; have HB := n0_; clear n0_; (try clear hb); (try clear hb2); (try clear hk); (try clear hi)) | (go_at_call 32; (with_reducible refine (portagelaw18_text.calls k (wrap64 (Int.tmod (IntKind.u64.wrap (a2)) 4097)) 98 t248 _ A8.out).mono ?_); rintro e w14 ⟨rfl, hb⟩; have n0_ := Aside0.mk (below_step (by repeat (first | (with_reducible first | exact HB.out | apply below_alloc | apply pw_below_drewN | apply below_drew1) | exact HB.out)) hb); clear HB; have HB := n0_; clear n0_; (try clear hb); (try clear hb2); (try clear hk); (try clear hi)) | (go_at_call 25; (with_reducible refine (slot_Plan.calls k (wrap64 (1 + (wrap64 (Int.tmod (IntKind.u64.wrap (a0)) 1048575)))) t247 t249 t250 _ A9.out).mono ?_); rintro e w15 ⟨v251, rfl, ho0, hb⟩; have n0_ := Aside0.mk (Kd.R_lower ho0 (below_size (by repeat (first | (with_reducible first | exact HB.out | apply below_alloc | apply pw_below_drewN | apply below_drew1) | exact HB.out)))); have n1_ := Aside0.mk (below_step (by repeat (first | (with_reducible first | exact HB.out | apply below_alloc | apply pw_below_drewN | apply below_drew1) | exact HB.out)) hb); clear HB; have HO252 := n0_; have HB := n1_; clear n0_ n1_; (try clear hb); (try clear hb2); (try clear hk); (try clear hi); (try clear ho0)) | (go_at_call 25; (with_reducible refine (slot_Plan.calls k (wrap64 ((wrap64 (1 + (wrap64 (Int.tmod (IntKind.u64.wrap (a0)) 1048575)))) + 1)) t248 t253 t254 _ A10.out).mono ?_); rintro e w16 ⟨v255, rfl, ho0, hb⟩; have n0_ := Aside0.mk (Kd.R_elder' (by (with_reducible repeat (first | apply Kd.R_alloc | apply Kd.R_drewN | apply Kd.R_drew)); exact HO252.out) (Kd.R_base ho0) hb); have n1_ := Aside0.mk (Kd.R_lower (Kd.R_new' ho0 (Kd.R_lt (by (with_reducible repeat (first | apply Kd.R_alloc | apply Kd.R_drewN | apply Kd.R_drew)); exact HO252.out))) (below_size (by repeat (first | (with_reducible first | exact HB.out | apply below_alloc | apply pw_below_drewN | apply below_drew1) | exact HB.out)))); have n2_ := Aside0.mk (below_step (by repeat (first | (with_reducible first | exact HB.out | apply below_alloc | apply pw_below_drewN | apply below_drew1) | exact HB.out)) hb); clear HO252; clear HB; have HO252 := n0_; have HO256 := n1_; have HB := n2_; clear n0_ n1_ n2_; (try clear hb); (try clear hb2); (try clear hk); (try clear hi); (try clear ho0)))
    repeat (go_quiet (first | (go_at_call 31; (with_reducible refine (portagelaw18_awake.calls k  true _ A5.out).mono ?_); rintro e w12 ⟨rfl, hb⟩; have n0_ := Aside0.mk (below_step (by repeat (first | (with_reducible first | exact HB.out | apply below_alloc | apply pw_below_drewN | apply below_drew1) | exact HB.out)) hb); clear HB; have HB := n0_; clear n0_; (try clear hb); (try clear hb2); (try clear hk); (try clear hi)) | (go_at_call 32; (with_reducible refine (portagelaw18_text.calls k (wrap64 (Int.tmod (IntKind.u64.wrap (a1)) 4097)) 97 t247 _ A7.out).mono ?_); rintro e w13 ⟨rfl, hb⟩; have n0_ := Aside0.mk (below_step (by repeat (first | (with_reducible first | exact HB.out | apply below_alloc | apply pw_below_drewN | apply below_drew1) | exact HB.out)) hb); clear HB; have HB := n0_; clear n0_; (try clear hb); (try clear hb2); (try clear hk); (try clear hi)) | (go_at_call 32; (with_reducible refine (portagelaw18_text.calls k (wrap64 (Int.tmod (IntKind.u64.wrap (a2)) 4097)) 98 t248 _ A8.out).mono ?_); rintro e w14 ⟨rfl, hb⟩; have n0_ := Aside0.mk (below_step (by repeat (first | (with_reducible first | exact HB.out | apply below_alloc | apply pw_below_drewN | apply below_drew1) | exact HB.out)) hb); clear HB; have HB := n0_; clear n0_; (try clear hb); (try clear hb2); (try clear hk); (try clear hi)) | (go_at_call 25; (with_reducible refine (slot_Plan.calls k (wrap64 (1 + (wrap64 (Int.tmod (IntKind.u64.wrap (a0)) 1048575)))) t247 t249 t250 _ A9.out).mono ?_); rintro e w15 ⟨v251, rfl, ho0, hb⟩; have n0_ := Aside0.mk (Kd.R_lower ho0 (below_size (by repeat (first | (with_reducible first | exact HB.out | apply below_alloc | apply pw_below_drewN | apply below_drew1) | exact HB.out)))); have n1_ := Aside0.mk (below_step (by repeat (first | (with_reducible first | exact HB.out | apply below_alloc | apply pw_below_drewN | apply below_drew1) | exact HB.out)) hb); clear HB; have HO252 := n0_; have HB := n1_; clear n0_ n1_; (try clear hb); (try clear hb2); (try clear hk); (try clear hi); (try clear ho0)) | (go_at_call 25; (with_reducible refine (slot_Plan.calls k (wrap64 ((wrap64 (1 + (wrap64 (Int.tmod (IntKind.u64.wrap (a0)) 1048575)))) + 1)) t248 t253 t254 _ A10.out).mono ?_); rintro e w16 ⟨v255, rfl, ho0, hb⟩; have n0_ := Aside0.mk (Kd.R_elder' (by (with_reducible repeat (first | apply Kd.R_alloc | apply Kd.R_drewN | apply Kd.R_drew)); exact HO252.out) (Kd.R_base ho0) hb); have n1_ := Aside0.mk (Kd.R_lower (Kd.R_new' ho0 (Kd.R_lt (by (with_reducible repeat (first | apply Kd.R_alloc | apply Kd.R_drewN | apply Kd.R_drew)); exact HO252.out))) (below_size (by repeat (first | (with_reducible first | exact HB.out | apply below_alloc | apply pw_below_drewN | apply below_drew1) | exact HB.out)))); have n2_ := Aside0.mk (below_step (by repeat (first | (with_reducible first | exact HB.out | apply below_alloc | apply pw_below_drewN | apply below_drew1) | exact HB.out)) hb); clear HO252; clear HB; have HO252 := n0_; have HO256 := n1_; have HB := n2_; clear n0_ n1_ n2_; (try clear hb); (try clear hb2); (try clear hk); (try clear hi); (try clear ho0))); go_upto_region 7 with (first | (go_at_call 31; (with_reducible refine (portagelaw18_awake.calls k  true _ A5.out).mono ?_); rintro e w12 ⟨rfl, hb⟩; have n0_ := Aside0.mk (below_step (by repeat (first | (with_reducible first | exact HB.out | apply below_alloc | apply pw_below_drewN | apply below_drew1) | exact HB.out)) hb); clear HB; have HB := n0_; clear n0_; (try clear hb); (try clear hb2); (try clear hk); (try clear hi)) | (go_at_call 32; (with_reducible refine (portagelaw18_text.calls k (wrap64 (Int.tmod (IntKind.u64.wrap (a1)) 4097)) 97 t247 _ A7.out).mono ?_); rintro e w13 ⟨rfl, hb⟩; have n0_ := Aside0.mk (below_step (by repeat (first | (with_reducible first | exact HB.out | apply below_alloc | apply pw_below_drewN | apply below_drew1) | exact HB.out)) hb); clear HB; have HB := n0_; clear n0_; (try clear hb); (try clear hb2); (try clear hk); (try clear hi)) | (go_at_call 32; (with_reducible refine (portagelaw18_text.calls k (wrap64 (Int.tmod (IntKind.u64.wrap (a2)) 4097)) 98 t248 _ A8.out).mono ?_); rintro e w14 ⟨rfl, hb⟩; have n0_ := Aside0.mk (below_step (by repeat (first | (with_reducible first | exact HB.out | apply below_alloc | apply pw_below_drewN | apply below_drew1) | exact HB.out)) hb); clear HB; have HB := n0_; clear n0_; (try clear hb); (try clear hb2); (try clear hk); (try clear hi)) | (go_at_call 25; (with_reducible refine (slot_Plan.calls k (wrap64 (1 + (wrap64 (Int.tmod (IntKind.u64.wrap (a0)) 1048575)))) t247 t249 t250 _ A9.out).mono ?_); rintro e w15 ⟨v251, rfl, ho0, hb⟩; have n0_ := Aside0.mk (Kd.R_lower ho0 (below_size (by repeat (first | (with_reducible first | exact HB.out | apply below_alloc | apply pw_below_drewN | apply below_drew1) | exact HB.out)))); have n1_ := Aside0.mk (below_step (by repeat (first | (with_reducible first | exact HB.out | apply below_alloc | apply pw_below_drewN | apply below_drew1) | exact HB.out)) hb); clear HB; have HO252 := n0_; have HB := n1_; clear n0_ n1_; (try clear hb); (try clear hb2); (try clear hk); (try clear hi); (try clear ho0)) | (go_at_call 25; (with_reducible refine (slot_Plan.calls k (wrap64 ((wrap64 (1 + (wrap64 (Int.tmod (IntKind.u64.wrap (a0)) 1048575)))) + 1)) t248 t253 t254 _ A10.out).mono ?_); rintro e w16 ⟨v255, rfl, ho0, hb⟩; have n0_ := Aside0.mk (Kd.R_elder' (by (with_reducible repeat (first | apply Kd.R_alloc | apply Kd.R_drewN | apply Kd.R_drew)); exact HO252.out) (Kd.R_base ho0) hb); have n1_ := Aside0.mk (Kd.R_lower (Kd.R_new' ho0 (Kd.R_lt (by (with_reducible repeat (first | apply Kd.R_alloc | apply Kd.R_drewN | apply Kd.R_drew)); exact HO252.out))) (below_size (by repeat (first | (with_reducible first | exact HB.out | apply below_alloc | apply pw_below_drewN | apply below_drew1) | exact HB.out)))); have n2_ := Aside0.mk (below_step (by repeat (first | (with_reducible first | exact HB.out | apply below_alloc | apply pw_below_drewN | apply below_drew1) | exact HB.out)) hb); clear HO252; clear HB; have HO252 := n0_; have HO256 := n1_; have HB := n2_; clear n0_ n1_ n2_; (try clear hb); (try clear hb2); (try clear hk); (try clear hi); (try clear ho0))))
    (try simp only [Act.put, List.setIfInBounds_toArray, List.set_cons_zero, List.set_cons_succ])
    go_cut [63] (fun v63 wc => ∃ (kq : Nat) (x63_10 : Bool), v63 = .bool x63_10 ∧ Aside0 (portagelaw18_SlotTwo.j0 kq a3 (wrap64 (1 + (wrap64 (Int.tmod (IntKind.u64.wrap (a0)) 1048575)))) t248 t249 t253 x63_10 = some r) ∧ Aside0 (kq ≤ k) ∧ Aside0 (Kd.R k42 42 wc w.heap.size (fun k_ => some k_ ≠ (v255 : Value).ownBlock) v251 t249) ∧ Aside0 (Kd.R k42 42 wc w.heap.size (fun k_ => some k_ ≠ (v251 : Value).ownBlock) v255 t253) ∧ Aside0 (Below w.heap.size w wc))
    case first =>
      have H := HC11.out
      clear HC11
      replace H := Option.bind_eq_some_iff.mp H
      obtain ⟨t257, A170, H⟩ := H
      replace H : (if t257 = 0 then ((portagelaw0_Num.f t254).bind fun t258 => (portagelaw18_SlotTwo.j0 k a3 (wrap64 (1 + (wrap64 (Int.tmod (IntKind.u64.wrap (a0)) 1048575)))) t248 t249 t253 (t258 != 0))) else (portagelaw18_SlotTwo.j0 k a3 (wrap64 (1 + (wrap64 (Int.tmod (IntKind.u64.wrap (a0)) 1048575)))) t248 t249 t253 true)) = some r := H
      have A17 := Aside0.mk A170
      clear A170
      by_cases c18 : t257 = 0
      · rw [if_pos c18] at H
        have c18b0 : (t257 == 0) = true := beq_iff_eq.mpr c18
        have c18b1 : (t257 != 0) = false := bne_eq_false_iff_eq.mpr c18
        clear c18
        (first | rw [c18b0] | (simp only [i64_w, i32_w]; rw [c18b0]) | skip)
        replace H := Option.bind_eq_some_iff.mp H
        obtain ⟨t258, A190, H⟩ := H
        replace H : (portagelaw18_SlotTwo.j0 k a3 (wrap64 (1 + (wrap64 (Int.tmod (IntKind.u64.wrap (a0)) 1048575)))) t248 t249 t253 (t258 != 0)) = some r := H
        have A19 := Aside0.mk A190
        clear A190
        have H' := Aside0.mk H
        clear H
        go_wp2_with (first | (go_at_call 18; (with_reducible refine (portagelaw0_Num.calls t250 t257 _ A17.out).mono ?_); rintro e w' ⟨rfl, ⟨nd, rfl⟩⟩; (try first | exact ⟨rfl, _, World.drewN_drewN _ _ _⟩ | exact ⟨rfl, _, Eq.trans (World.drewN_drewN _ _ _) (congrArg (World.drewN _) (Nat.add_assoc _ _ _))⟩)) | (go_at_call 18; (with_reducible refine (portagelaw0_Num.calls t254 t258 _ A19.out).mono ?_); rintro e w' ⟨rfl, ⟨nd, rfl⟩⟩; (try first | exact ⟨rfl, _, World.drewN_drewN _ _ _⟩ | exact ⟨rfl, _, Eq.trans (World.drewN_drewN _ _ _) (congrArg (World.drewN _) (Nat.add_assoc _ _ _))⟩)))
        repeat (go_quiet (first | (go_at_call 18; (with_reducible refine (portagelaw0_Num.calls t250 t257 _ A17.out).mono ?_); rintro e w' ⟨rfl, ⟨nd, rfl⟩⟩; (try first | exact ⟨rfl, _, World.drewN_drewN _ _ _⟩ | exact ⟨rfl, _, Eq.trans (World.drewN_drewN _ _ _) (congrArg (World.drewN _) (Nat.add_assoc _ _ _))⟩)) | (go_at_call 18; (with_reducible refine (portagelaw0_Num.calls t254 t258 _ A19.out).mono ?_); rintro e w' ⟨rfl, ⟨nd, rfl⟩⟩; (try first | exact ⟨rfl, _, World.drewN_drewN _ _ _⟩ | exact ⟨rfl, _, Eq.trans (World.drewN_drewN _ _ _) (congrArg (World.drewN _) (Nat.add_assoc _ _ _))⟩))); try go_wp2_with (first | (go_at_call 18; (with_reducible refine (portagelaw0_Num.calls t250 t257 _ A17.out).mono ?_); rintro e w' ⟨rfl, ⟨nd, rfl⟩⟩; (try first | exact ⟨rfl, _, World.drewN_drewN _ _ _⟩ | exact ⟨rfl, _, Eq.trans (World.drewN_drewN _ _ _) (congrArg (World.drewN _) (Nat.add_assoc _ _ _))⟩)) | (go_at_call 18; (with_reducible refine (portagelaw0_Num.calls t254 t258 _ A19.out).mono ?_); rintro e w' ⟨rfl, ⟨nd, rfl⟩⟩; (try first | exact ⟨rfl, _, World.drewN_drewN _ _ _⟩ | exact ⟨rfl, _, Eq.trans (World.drewN_drewN _ _ _) (congrArg (World.drewN _) (Nat.add_assoc _ _ _))⟩))))
        go_meet
        case rel => exact ⟨_, ((t258 != 0)), (by first | rfl | (simp; done) | (simp [*]; done)), H', ⟨by first | omega | exact Nat.le_refl _⟩, ⟨by (with_reducible repeat (first | apply Kd.R_alloc | apply Kd.R_drewN | apply Kd.R_drew)); exact Kd.R_mono HO252.out (fun _ hk => hk.2)⟩, ⟨by (with_reducible repeat (first | apply Kd.R_alloc | apply Kd.R_drewN | apply Kd.R_drew)); exact Kd.R_mono HO256.out (fun _ hk => hk.2)⟩, ⟨by repeat (first | (with_reducible first | exact HB.out | apply below_alloc | apply pw_below_drewN | apply below_drew1) | exact HB.out)⟩⟩
      · rw [if_neg c18] at H
        have c18b0 : (t257 == 0) = false := beq_eq_false_iff_ne.mpr c18
        have c18b1 : (t257 != 0) = true := bne_iff_ne.mpr c18
        (first | rw [c18b0] | (simp only [i64_w, i32_w]; rw [c18b0]) | skip)
        have H' := Aside0.mk H
        clear H
        go_wp2_with (first | (go_at_call 18; (with_reducible refine (portagelaw0_Num.calls t250 t257 _ A17.out).mono ?_); rintro e w' ⟨rfl, ⟨nd, rfl⟩⟩; (try first | exact ⟨rfl, _, World.drewN_drewN _ _ _⟩ | exact ⟨rfl, _, Eq.trans (World.drewN_drewN _ _ _) (congrArg (World.drewN _) (Nat.add_assoc _ _ _))⟩)))
        repeat (go_quiet (first | (go_at_call 18; (with_reducible refine (portagelaw0_Num.calls t250 t257 _ A17.out).mono ?_); rintro e w' ⟨rfl, ⟨nd, rfl⟩⟩; (try first | exact ⟨rfl, _, World.drewN_drewN _ _ _⟩ | exact ⟨rfl, _, Eq.trans (World.drewN_drewN _ _ _) (congrArg (World.drewN _) (Nat.add_assoc _ _ _))⟩))); try go_wp2_with (first | (go_at_call 18; (with_reducible refine (portagelaw0_Num.calls t250 t257 _ A17.out).mono ?_); rintro e w' ⟨rfl, ⟨nd, rfl⟩⟩; (try first | exact ⟨rfl, _, World.drewN_drewN _ _ _⟩ | exact ⟨rfl, _, Eq.trans (World.drewN_drewN _ _ _) (congrArg (World.drewN _) (Nat.add_assoc _ _ _))⟩))))
        go_meet
        case rel => exact ⟨_, (true), (by first | rfl | (simp; done) | (simp [*]; done)), H', ⟨by first | omega | exact Nat.le_refl _⟩, ⟨by (with_reducible repeat (first | apply Kd.R_alloc | apply Kd.R_drewN | apply Kd.R_drew)); exact Kd.R_mono HO252.out (fun _ hk => hk.2)⟩, ⟨by (with_reducible repeat (first | apply Kd.R_alloc | apply Kd.R_drewN | apply Kd.R_drew)); exact Kd.R_mono HO256.out (fun _ hk => hk.2)⟩, ⟨by repeat (first | (with_reducible first | exact HB.out | apply below_alloc | apply pw_below_drewN | apply below_drew1) | exact HB.out)⟩⟩
    case rest =>
      clear HC11
      try clear c1
      try clear p2
      try clear c6
      try clear p6
      try clear c10
      try clear c18
      try clear c18b0
      try clear c18b1
      obtain ⟨kq, x63_10, rfl, HA, HJ10, HO_12, HO_14, HB⟩ := hcut
      cases kq with
      | zero => exact absurd HA.out (by simp [portagelaw18_SlotTwo.j0])
      | succ kj10 =>
        have H := HA.out
        clear HA
        simp only [portagelaw18_SlotTwo.j0] at H
        by_cases c20 : x63_10 = true
        · subst c20
          have H1 : (none) = some r := by rw [if_pos rfl] at H; exact H
          clear H
          have H := H1
          clear H1
          exact absurd H (by simp)
        · replace c20 := Bool.eq_false_iff.mpr c20
          subst c20
          have H1 : (portagelaw18_SlotTwo.l0 kj10 a3 (wrap64 (1 + (wrap64 (Int.tmod (IntKind.u64.wrap (a0)) 1048575)))) t248 t249 t253 0) = some r := by rw [if_neg (show ¬ (false = true) by decide)] at H; exact H
          clear H
          have H := H1
          clear H1
          obtain ⟨ji21, hji21⟩ : ∃ j_ : Int, ((wrap64 (1 + (wrap64 (Int.tmod (IntKind.u64.wrap (a0)) 1048575))))) = j_ := ⟨_, rfl⟩
          replace H : (portagelaw18_SlotTwo.l0 kj10 a3 ji21 t248 t249 t253 0) = some r := by first | (rw [hji21] at H; exact H) | (simp only [hji21] at H ⊢; exact H)
          have H' := Aside0.mk H
          clear H
          go_wp2
          repeat (go_quiet (fail); try go_wp2)
          go_loopg [16] kj10 (fun kq v16 w' => ∃ (x16_2 : Int), v16 = .int .i64 x16_2 ∧ Aside0 (portagelaw18_SlotTwo.l0 kq a3 ji21 t248 t249 t253 x16_2 = some r) ∧ Aside0 (kq ≤ kj10) ∧ Aside0 (Kd.R k42 42 w' w.heap.size (fun k_ => some k_ ≠ (v255 : Value).ownBlock) v251 t249) ∧ Aside0 (Kd.R k42 42 w' w.heap.size (fun k_ => some k_ ≠ (v251 : Value).ownBlock) v255 t253) ∧ Aside0 (Below w.heap.size w w'))
          case atStart => exact ⟨(0), (by first | rfl | (simp; done) | (simp [*]; done)), H', ⟨Nat.le_refl _⟩, ⟨by (with_reducible repeat (first | apply Kd.R_alloc | apply Kd.R_drewN | apply Kd.R_drew)); exact HO_12.out⟩, ⟨by (with_reducible repeat (first | apply Kd.R_alloc | apply Kd.R_drewN | apply Kd.R_drew)); exact HO_14.out⟩, ⟨by repeat (first | (with_reducible first | exact HB.out | apply below_alloc | apply pw_below_drewN | apply below_drew1) | exact HB.out)⟩⟩
          case round =>
            clear H'
            try clear c1
            try clear c2
            try clear p2
            try clear c6
            try clear p6
            try clear c10
            try clear c18
            try clear c18b0
            try clear c18b1
            try clear c20
            try clear p2
            try clear p6
            obtain ⟨x16_2, rfl, HA, HK2, HO_12, HO_14, HB⟩ := hrel
            cases gk with
            | zero => exact absurd HA.out (by simp [portagelaw18_SlotTwo.l0])
            | succ k2 =>
              have H := HA.out
              clear HA
              simp only [portagelaw18_SlotTwo.l0] at H
              by_cases c22 : x16_2 < (t249.length : Int)
              · rw [if_pos c22] at H
                have c22b0 : decide (x16_2 < (t249.length : Int)) = true := decide_eq_true c22
                clear c22
                have H' := Aside0.mk H
                clear H
                obtain ⟨Ao23, co23, eo23⟩ := Kd.R_slice HO_12.out
                subst eo23
                go_wp2
                repeat (go_quiet (fail); try go_wp2)
                go_loopg [17] k2 (fun kq v17 w' => ∃ (x17_3 : Int), v17 = .int .i64 x17_3 ∧ Aside0 (portagelaw18_SlotTwo.l1 kq a3 ji21 t248 t249 t253 x16_2 x17_3 = some r) ∧ Aside0 (kq ≤ k2) ∧ Aside0 (Kd.R k42 42 w' w.heap.size (fun k_ => some k_ ≠ (v255 : Value).ownBlock) (.slice Ao23 t249.length co23) t249) ∧ Aside0 (Kd.R k42 42 w' w.heap.size (fun k_ => some k_ ≠ ((.slice Ao23 t249.length co23) : Value).ownBlock) v255 t253) ∧ Aside0 (Below w.heap.size w w'))
                case atStart => exact ⟨(0), (by first | rfl | (simp; done) | (simp [*]; done)), H', ⟨Nat.le_refl _⟩, ⟨by (with_reducible repeat (first | apply Kd.R_alloc | apply Kd.R_drewN | apply Kd.R_drew)); exact HO_12.out⟩, ⟨by (with_reducible repeat (first | apply Kd.R_alloc | apply Kd.R_drewN | apply Kd.R_drew)); exact HO_14.out⟩, ⟨by repeat (first | (with_reducible first | exact HB.out | apply below_alloc | apply pw_below_drewN | apply below_drew1) | exact HB.out)⟩⟩
                case round =>
                  clear H'
                  try clear c1
                  try clear c2
                  try clear p2
                  try clear c6
                  try clear p6
                  try clear c10
                  try clear c18
                  try clear c18b0
                  try clear c18b1
                  try clear c20
                  try clear c22
                  try clear c22b0
                  try clear p2
                  try clear p6
                  obtain ⟨x17_3, rfl, HA, HK3, HO_12, HO_14, HB⟩ := hrel
                  cases gk with
                  | zero => exact absurd HA.out (by simp [portagelaw18_SlotTwo.l1])
                  | succ k3 =>
                    have H := HA.out
                    clear HA
                    simp only [portagelaw18_SlotTwo.l1] at H
                    by_cases c24 : x17_3 < (t253.length : Int)
                    · rw [if_pos c24] at H
                      have c24b0 : decide (x17_3 < (t253.length : Int)) = true := decide_eq_true c24
                      clear c24
                      by_cases c25 : 0 ≤ x16_2
                      · rw [if_pos c25] at H
                        have c25b0 : decide (0 ≤ x16_2) = true := decide_eq_true c25
                        clear c25
                        by_cases c26 : x16_2 < (t249.length : Int)
                        · rw [if_pos c26] at H
                          have c26b0 : decide (x16_2 < (t249.length : Int)) = true := decide_eq_true c26
                          clear c26
                          by_cases c27 : 0 ≤ x17_3
                          · rw [if_pos c27] at H
                            have c27b0 : decide (0 ≤ x17_3) = true := decide_eq_true c27
                            clear c27
                            by_cases c28 : ((rd_T42 t249 x16_2).f0) = ((rd_T42 t253 x17_3).f0)
                            · rw [if_pos c28] at H
                              exact absurd H (by simp)
                            · rw [if_neg c28] at H
                              have c28b0 : (((rd_T42 t249 x16_2).f0) == ((rd_T42 t253 x17_3).f0)) = false := beq_eq_false_iff_ne.mpr c28
                              have c28b1 : (((rd_T42 t249 x16_2).f0) != ((rd_T42 t253 x17_3).f0)) = true := bne_iff_ne.mpr c28
                              have H' := Aside0.mk H
                              clear H
                              obtain ⟨Ao29, co29, eo29⟩ := Kd.R_slice HO_14.out
                              subst eo29
                              have p259 : 0 ≤ (x16_2 : Int) := of_decide_eq_true (by first | (with_reducible assumption) | assumption)
                              have q259 : x16_2 < (t249.length : Int) := of_decide_eq_true (by first | (with_reducible assumption) | assumption)
                              obtain ⟨ad259, e259, hx259_0, hx259_1⟩ := at_T42 (Kd.R_reads' HO_12.out).2.2 x16_2 p259 q259
                              cases e259
                              replace p259 := eq_true p259
                              replace q259 := eq_true q259
                              have p260 : 0 ≤ (x17_3 : Int) := of_decide_eq_true (by first | (with_reducible assumption) | assumption)
                              have q260 : x17_3 < (t253.length : Int) := of_decide_eq_true (by first | (with_reducible assumption) | assumption)
                              obtain ⟨ad260, e260, hx260_0, hx260_1⟩ := at_T42 (Kd.R_reads' HO_14.out).2.2 x17_3 p260 q260
                              cases e260
                              replace p260 := eq_true p260
                              replace q260 := eq_true q260
                              go_wp2
                              repeat (go_quiet (fail); try go_wp2)
                              go_roundg k3
                              case measure => have := HJ10.out; have := HK2.out; have := HK3.out; omega
                              case rel => exact ⟨(wrap64 (x17_3 + 1)), (by first | rfl | (simp; done) | (simp [*]; done)), H', ⟨by have := HJ10.out; have := HK2.out; have := HK3.out; omega⟩, ⟨by (with_reducible repeat (first | apply Kd.R_alloc | apply Kd.R_drewN | apply Kd.R_drew)); exact HO_12.out⟩, ⟨by (with_reducible repeat (first | apply Kd.R_alloc | apply Kd.R_drewN | apply Kd.R_drew)); exact HO_14.out⟩, ⟨by repeat (first | (with_reducible first | exact HB.out | apply below_alloc | apply pw_below_drewN | apply below_drew1) | exact HB.out)⟩⟩
                          · rw [if_neg c27] at H
                            exact absurd H (by simp)
                        · rw [if_neg c26] at H
                          exact absurd H (by simp)
                      · rw [if_neg c25] at H
                        exact absurd H (by simp)
                    · rw [if_neg c24] at H
                      have c24b0 : decide (x17_3 < (t253.length : Int)) = false := decide_eq_false c24
                      clear c24
                      have H' := Aside0.mk H
                      clear H
                      obtain ⟨Ao30, co30, eo30⟩ := Kd.R_slice HO_14.out
                      subst eo30
                      go_wp2
                      repeat (go_quiet (fail); try go_wp2)
                      go_roundg k3
                      case measure => have := HJ10.out; have := HK2.out; have := HK3.out; omega
                      case rel => exact ⟨(wrap64 (x16_2 + 1)), (by first | rfl | (simp; done) | (simp [*]; done)), H', ⟨by have := HJ10.out; have := HK2.out; have := HK3.out; omega⟩, ⟨by (with_reducible repeat (first | apply Kd.R_alloc | apply Kd.R_drewN | apply Kd.R_drew)); exact HO_12.out⟩, ⟨by (with_reducible repeat (first | apply Kd.R_alloc | apply Kd.R_drewN | apply Kd.R_drew)); exact HO_14.out⟩, ⟨by repeat (first | (with_reducible first | exact HB.out | apply below_alloc | apply pw_below_drewN | apply below_drew1) | exact HB.out)⟩⟩
              · rw [if_neg c22] at H
                have c22b0 : decide (x16_2 < (t249.length : Int)) = false := decide_eq_false c22
                clear c22
                have HC31 := Aside0.mk H
                clear H
                obtain ⟨Ao32, co32, eo32⟩ := Kd.R_slice HO_12.out
                subst eo32
                go_upto_if 87 with (fail)
                repeat (go_quiet (fail); go_upto_if 87 with (fail))
                go_cut [12, 14] (fun v12 v14 wc => ∃ (kq : Nat) (x12_30 : List (S42)) (x14_30 : List (S42)), Aside0 (portagelaw18_SlotTwo.j3 kq ji21 t248 x12_30 x14_30 = some r) ∧ Aside0 (kq ≤ k2) ∧ Aside0 (Kd.R k42 42 wc w.heap.size (fun k_ => some k_ ≠ (v14 : Value).ownBlock) v12 x12_30) ∧ Aside0 (Kd.R k42 42 wc w.heap.size (fun k_ => some k_ ≠ (v12 : Value).ownBlock) v14 x14_30) ∧ Aside0 (Below w.heap.size w wc))
                case first =>
                  have H := HC31.out
                  clear HC31
                  by_cases c33 : a3 = true
                  · subst c33
                    have H1 : (portagelaw18_SlotTwo.j3 k2 ji21 t248 t253 t249) = some r := by rw [if_pos rfl] at H; exact H
                    clear H
                    have H := H1
                    clear H1
                    have H' := Aside0.mk H
                    clear H
                    go_wp2
                    repeat (go_quiet (fail); try go_wp2)
                    go_meet
                    case rel => exact ⟨_, (t253), (t249), H', ⟨by have := HJ10.out; have := HK2.out; first | omega | exact Nat.le_refl _⟩, ⟨by (with_reducible repeat (first | apply Kd.R_alloc | apply Kd.R_drewN | apply Kd.R_drew)); exact HO_14.out⟩, ⟨by (with_reducible repeat (first | apply Kd.R_alloc | apply Kd.R_drewN | apply Kd.R_drew)); exact HO_12.out⟩, ⟨by repeat (first | (with_reducible first | exact HB.out | apply below_alloc | apply pw_below_drewN | apply below_drew1) | exact HB.out)⟩⟩
                  · replace c33 := Bool.eq_false_iff.mpr c33
                    subst c33
                    have H1 : (portagelaw18_SlotTwo.j3 k2 ji21 t248 t249 t253) = some r := by rw [if_neg (show ¬ (false = true) by decide)] at H; exact H
                    clear H
                    have H := H1
                    clear H1
                    have H' := Aside0.mk H
                    clear H
                    go_wp2
                    repeat (go_quiet (fail); try go_wp2)
                    go_meet
                    case rel => exact ⟨_, (t249), (t253), H', ⟨by have := HJ10.out; have := HK2.out; first | omega | exact Nat.le_refl _⟩, ⟨by (with_reducible repeat (first | apply Kd.R_alloc | apply Kd.R_drewN | apply Kd.R_drew)); exact HO_12.out⟩, ⟨by (with_reducible repeat (first | apply Kd.R_alloc | apply Kd.R_drewN | apply Kd.R_drew)); exact HO_14.out⟩, ⟨by repeat (first | (with_reducible first | exact HB.out | apply below_alloc | apply pw_below_drewN | apply below_drew1) | exact HB.out)⟩⟩
                case rest =>
                  clear HC31
                  try clear c1
                  try clear c2
                  try clear p2
                  try clear q2
                  try clear hx2
                  try clear c3
                  try clear c6
                  try clear p6
                  try clear c10
                  try clear c18
                  try clear c18b0
                  try clear c18b1
                  try clear c20
                  try clear c22
                  try clear c22b0
                  try clear c24
                  try clear c24b0
                  try clear c25
                  try clear c25b0
                  try clear p25
                  try clear q25
                  try clear hx25
                  try clear c26
                  try clear c26b0
                  try clear p26
                  try clear q26
                  try clear hx26
                  try clear c27
                  try clear c27b0
                  try clear c28
                  try clear c28b0
                  try clear c28b1
                  try clear c33
                  try clear hx259_0
                  try clear hx259_1
                  try clear hx260_0
                  try clear hx260_1
                  try clear p2
                  try clear p259
                  try clear p260
                  try clear p6
                  try clear q259
                  try clear q260
                  obtain ⟨kq, x12_30, x14_30, HA, HJ30, HO_12, HO_14, HB⟩ := hcut
                  cases kq with
                  | zero => exact absurd HA.out (by simp [portagelaw18_SlotTwo.j3])
                  | succ kj30 =>
                    have H := HA.out
                    clear HA
                    simp only [portagelaw18_SlotTwo.j3] at H
                    replace H := Option.bind_eq_some_iff.mp H
                    obtain ⟨t261, A340, H⟩ := H
                    replace H : ((portageref17_Run.f kj30 t261 x12_30 (x12_30.length : Int) 0).bind fun bt264 => ((portageref17_Run.f kj30 bt264.1 x14_30 (x14_30.length : Int) 0).bind fun bt268 => ((slot_Find.f kj30 bt268.1).bind fun bt272 => (if bt264.2 = 0 then (if bt268.2 = 0 then ((portagelaw0_Num.f bt272.2.2).bind fun t275 => (if t275 = 0 then (if bt272.1 = (wrap64 (ji21 + 1)) then (some (bt272.2.1.toList == t248.toList)) else (none)) else (none))) else (none)) else (none))))) = some r := H
                    have A34 := Aside0.mk A340
                    clear A340
                    replace H := Option.bind_eq_some_iff.mp H
                    obtain ⟨⟨t264, t265⟩, A350, H⟩ := H
                    replace H : ((portageref17_Run.f kj30 t264 x14_30 (x14_30.length : Int) 0).bind fun bt268 => ((slot_Find.f kj30 bt268.1).bind fun bt272 => (if t265 = 0 then (if bt268.2 = 0 then ((portagelaw0_Num.f bt272.2.2).bind fun t275 => (if t275 = 0 then (if bt272.1 = (wrap64 (ji21 + 1)) then (some (bt272.2.1.toList == t248.toList)) else (none)) else (none))) else (none)) else (none)))) = some r := H
                    have A35 := Aside0.mk A350
                    clear A350
                    replace H := Option.bind_eq_some_iff.mp H
                    obtain ⟨⟨t268, t269⟩, A360, H⟩ := H
                    replace H : ((slot_Find.f kj30 t268).bind fun bt272 => (if t265 = 0 then (if t269 = 0 then ((portagelaw0_Num.f bt272.2.2).bind fun t275 => (if t275 = 0 then (if bt272.1 = (wrap64 (ji21 + 1)) then (some (bt272.2.1.toList == t248.toList)) else (none)) else (none))) else (none)) else (none))) = some r := H
                    have A36 := Aside0.mk A360
                    clear A360
                    replace H := Option.bind_eq_some_iff.mp H
                    obtain ⟨⟨t272, t273, t274⟩, A370, H⟩ := H
                    replace H : (if t265 = 0 then (if t269 = 0 then ((portagelaw0_Num.f t274).bind fun t275 => (if t275 = 0 then (if t272 = (wrap64 (ji21 + 1)) then (some (t273.toList == t248.toList)) else (none)) else (none))) else (none)) else (none)) = some r := H
                    have A37 := Aside0.mk A370
                    clear A370
                    by_cases c38 : t265 = 0
                    · rw [if_pos c38] at H
                      have c38b0 : (t265 == 0) = true := beq_iff_eq.mpr c38
                      have c38b1 : (t265 != 0) = false := bne_eq_false_iff_eq.mpr c38
                      clear c38
                      by_cases c39 : t269 = 0
                      · rw [if_pos c39] at H
                        have c39b0 : (t269 == 0) = true := beq_iff_eq.mpr c39
                        have c39b1 : (t269 != 0) = false := bne_eq_false_iff_eq.mpr c39
                        clear c39
                        replace H := Option.bind_eq_some_iff.mp H
                        obtain ⟨t275, A400, H⟩ := H
                        replace H : (if t275 = 0 then (if t272 = (wrap64 (ji21 + 1)) then (some (t273.toList == t248.toList)) else (none)) else (none)) = some r := H
                        have A40 := Aside0.mk A400
                        clear A400
                        by_cases c41 : t275 = 0
                        · rw [if_pos c41] at H
                          have c41b0 : (t275 == 0) = true := beq_iff_eq.mpr c41
                          have c41b1 : (t275 != 0) = false := bne_eq_false_iff_eq.mpr c41
                          clear c41
                          by_cases c42 : t272 = (wrap64 (ji21 + 1))
                          · rw [if_pos c42] at H
                            have c42b0 : (t272 == (wrap64 (ji21 + 1))) = true := beq_iff_eq.mpr c42
                            have c42b1 : (t272 != (wrap64 (ji21 + 1))) = false := bne_eq_false_iff_eq.mpr c42
                            clear c42
                            obtain rfl := Option.some.inj H
                            go_wp2_with (first | (go_at_call 12; (with_reducible refine (portageref17_NewDisk.calls kj30  t261 _ A34.out).mono ?_); rintro e w43 ⟨v262, rfl, ho0, hb⟩; have n0_ := Aside0.mk (Kd.R_below (by (with_reducible repeat (first | apply Kd.R_alloc | apply Kd.R_drewN | apply Kd.R_drew)); exact HO_12.out) hb); have n1_ := Aside0.mk (Kd.R_below (by (with_reducible repeat (first | apply Kd.R_alloc | apply Kd.R_drewN | apply Kd.R_drew)); exact HO_14.out) hb); have n2_ := Aside0.mk (Kd.R_lower ho0 (below_size (by repeat (first | (with_reducible first | exact HB.out | apply below_alloc | apply pw_below_drewN | apply below_drew1) | exact HB.out)))); have n3_ := Aside0.mk (below_step (by repeat (first | (with_reducible first | exact HB.out | apply below_alloc | apply pw_below_drewN | apply below_drew1) | exact HB.out)) hb); clear HO_12; clear HO_14; clear HB; have HO_12 := n0_; have HO_14 := n1_; have HO263 := n2_; have HB := n3_; clear n0_ n1_ n2_ n3_; (try clear hb); (try clear hb2); (try clear hk); (try clear hi); (try clear ho0); obtain ⟨Ao44, co44, eo44⟩ := Kd.R_slice HO_12.out; subst eo44; obtain ⟨Ao45, co45, eo45⟩ := Kd.R_slice HO263.out; subst eo45) | (go_at_call 16; (with_reducible refine (portageref17_Run.calls kj30 _ _ t261 _ _ x12_30 (x12_30.length : Int) 0 t264 t265 _ ?side1 ?side2 ?side3 ?side4 A35.out).mono ?_); (case side1 => repeat (first | exact (Kd.R_reads' HO263.out).2.2 | (with_reducible refine Kd.C_alloc ?_ _) | (with_reducible refine Kd.C_drewN ?_ _) | (with_reducible refine Kd.C_drew ?_))); (case side2 => exact (Kd.R_reads' HO263.out).2.1); (case side3 => repeat (first | exact (Kd.R_reads' HO_12.out).2.2 | (with_reducible refine Kd.C_alloc ?_ _) | (with_reducible refine Kd.C_drewN ?_ _) | (with_reducible refine Kd.C_drew ?_))); (case side4 => exact (Kd.R_reads' HO_12.out).2.1); rintro e w46 ⟨v266, rfl, ho0, hb⟩; have n0_ := Aside0.mk (Kd.R_below (by (with_reducible repeat (first | apply Kd.R_alloc | apply Kd.R_drewN | apply Kd.R_drew)); exact HO_12.out) hb); have n1_ := Aside0.mk (Kd.R_below (by (with_reducible repeat (first | apply Kd.R_alloc | apply Kd.R_drewN | apply Kd.R_drew)); exact HO_14.out) hb); have n2_ := Aside0.mk (Kd.R_elder' (by (with_reducible repeat (first | apply Kd.R_alloc | apply Kd.R_drewN | apply Kd.R_drew)); exact HO263.out) (Kd.R_base ho0) hb); have n3_ := Aside0.mk (Kd.R_lower (Kd.R_new' ho0 (Kd.R_lt (by (with_reducible repeat (first | apply Kd.R_alloc | apply Kd.R_drewN | apply Kd.R_drew)); exact HO263.out))) (below_size (by repeat (first | (with_reducible first | exact HB.out | apply below_alloc | apply pw_below_drewN | apply below_drew1) | exact HB.out)))); have n4_ := Aside0.mk (below_step (by repeat (first | (with_reducible first | exact HB.out | apply below_alloc | apply pw_below_drewN | apply below_drew1) | exact HB.out)) hb); clear HO_12; clear HO_14; clear HO263; clear HB; have HO_12 := n0_; have HO_14 := n1_; have HO263 := n2_; have HO267 := n3_; have HB := n4_; clear n0_ n1_ n2_ n3_ n4_; (try clear hb); (try clear hb2); (try clear hk); (try clear hi); (try clear ho0); obtain ⟨Ao47, co47, eo47⟩ := Kd.R_slice HO_14.out; subst eo47; obtain ⟨Ao48, co48, eo48⟩ := Kd.R_slice HO267.out; subst eo48) | (go_at_call 16; (with_reducible refine (portageref17_Run.calls kj30 _ _ t264 _ _ x14_30 (x14_30.length : Int) 0 t268 t269 _ ?side1 ?side2 ?side3 ?side4 A36.out).mono ?_); (case side1 => repeat (first | exact (Kd.R_reads' HO267.out).2.2 | (with_reducible refine Kd.C_alloc ?_ _) | (with_reducible refine Kd.C_drewN ?_ _) | (with_reducible refine Kd.C_drew ?_))); (case side2 => exact (Kd.R_reads' HO267.out).2.1); (case side3 => repeat (first | exact (Kd.R_reads' HO_14.out).2.2 | (with_reducible refine Kd.C_alloc ?_ _) | (with_reducible refine Kd.C_drewN ?_ _) | (with_reducible refine Kd.C_drew ?_))); (case side4 => exact (Kd.R_reads' HO_14.out).2.1); rintro e w49 ⟨v270, rfl, ho0, hb⟩; have n0_ := Aside0.mk (Kd.R_below (by (with_reducible repeat (first | apply Kd.R_alloc | apply Kd.R_drewN | apply Kd.R_drew)); exact HO_12.out) hb); have n1_ := Aside0.mk (Kd.R_below (by (with_reducible repeat (first | apply Kd.R_alloc | apply Kd.R_drewN | apply Kd.R_drew)); exact HO_14.out) hb); have n2_ := Aside0.mk (Kd.R_elder' (by (with_reducible repeat (first | apply Kd.R_alloc | apply Kd.R_drewN | apply Kd.R_drew)); exact HO263.out) (Kd.R_base ho0) hb); have n3_ := Aside0.mk (Kd.R_elder' (by (with_reducible repeat (first | apply Kd.R_alloc | apply Kd.R_drewN | apply Kd.R_drew)); exact HO267.out) (Kd.R_base ho0) hb); have n4_ := Aside0.mk (Kd.R_lower (Kd.R_new' (Kd.R_new' ho0 (Kd.R_lt (by (with_reducible repeat (first | apply Kd.R_alloc | apply Kd.R_drewN | apply Kd.R_drew)); exact HO263.out))) (Kd.R_lt (by (with_reducible repeat (first | apply Kd.R_alloc | apply Kd.R_drewN | apply Kd.R_drew)); exact HO267.out))) (below_size (by repeat (first | (with_reducible first | exact HB.out | apply below_alloc | apply pw_below_drewN | apply below_drew1) | exact HB.out)))); have n5_ := Aside0.mk (below_step (by repeat (first | (with_reducible first | exact HB.out | apply below_alloc | apply pw_below_drewN | apply below_drew1) | exact HB.out)) hb); clear HO_12; clear HO_14; clear HO263; clear HO267; clear HB; have HO_12 := n0_; have HO_14 := n1_; have HO263 := n2_; have HO267 := n3_; have HO271 := n4_; have HB := n5_; clear n0_ n1_ n2_ n3_ n4_ n5_; (try clear hb); (try clear hb2); (try clear hk); (try clear hi); (try clear ho0); obtain ⟨Ao50, co50, eo50⟩ := Kd.R_slice HO271.out; subst eo50) | (go_at_call 27; (with_reducible refine (slot_Find.calls kj30 _ _ t268 t272 t273 t274 _ ?side1 ?side2 A37.out).mono ?_); (case side1 => repeat (first | exact (Kd.R_reads' HO271.out).2.2 | (with_reducible refine Kd.C_alloc ?_ _) | (with_reducible refine Kd.C_drewN ?_ _) | (with_reducible refine Kd.C_drew ?_))); (case side2 => exact (Kd.R_reads' HO271.out).2.1); rintro e w51 ⟨rfl, hb⟩; have n0_ := Aside0.mk (Kd.R_below (by (with_reducible repeat (first | apply Kd.R_alloc | apply Kd.R_drewN | apply Kd.R_drew)); exact HO_12.out) hb); have n1_ := Aside0.mk (Kd.R_below (by (with_reducible repeat (first | apply Kd.R_alloc | apply Kd.R_drewN | apply Kd.R_drew)); exact HO_14.out) hb); have n2_ := Aside0.mk (Kd.R_below (by (with_reducible repeat (first | apply Kd.R_alloc | apply Kd.R_drewN | apply Kd.R_drew)); exact HO263.out) hb); have n3_ := Aside0.mk (Kd.R_below (by (with_reducible repeat (first | apply Kd.R_alloc | apply Kd.R_drewN | apply Kd.R_drew)); exact HO267.out) hb); have n4_ := Aside0.mk (Kd.R_below (by (with_reducible repeat (first | apply Kd.R_alloc | apply Kd.R_drewN | apply Kd.R_drew)); exact HO271.out) hb); have n5_ := Aside0.mk (below_step (by repeat (first | (with_reducible first | exact HB.out | apply below_alloc | apply pw_below_drewN | apply below_drew1) | exact HB.out)) hb); clear HO_12; clear HO_14; clear HO263; clear HO267; clear HO271; clear HB; have HO_12 := n0_; have HO_14 := n1_; have HO263 := n2_; have HO267 := n3_; have HO271 := n4_; have HB := n5_; clear n0_ n1_ n2_ n3_ n4_ n5_; (try clear hb); (try clear hb2); (try clear hk); (try clear hi)) | (go_at_call 18; (with_reducible refine (portagelaw0_Num.calls t274 t275 _ A40.out).mono ?_); rintro e w' ⟨rfl, ⟨nd, rfl⟩⟩; (try first | exact ⟨rfl, _, World.drewN_drewN _ _ _⟩ | exact ⟨rfl, _, Eq.trans (World.drewN_drewN _ _ _) (congrArg (World.drewN _) (Nat.add_assoc _ _ _))⟩)))
                            repeat (go_quiet (first | (go_at_call 12; (with_reducible refine (portageref17_NewDisk.calls kj30  t261 _ A34.out).mono ?_); rintro e w43 ⟨v262, rfl, ho0, hb⟩; have n0_ := Aside0.mk (Kd.R_below (by (with_reducible repeat (first | apply Kd.R_alloc | apply Kd.R_drewN | apply Kd.R_drew)); exact HO_12.out) hb); have n1_ := Aside0.mk (Kd.R_below (by (with_reducible repeat (first | apply Kd.R_alloc | apply Kd.R_drewN | apply Kd.R_drew)); exact HO_14.out) hb); have n2_ := Aside0.mk (Kd.R_lower ho0 (below_size (by repeat (first | (with_reducible first | exact HB.out | apply below_alloc | apply pw_below_drewN | apply below_drew1) | exact HB.out)))); have n3_ := Aside0.mk (below_step (by repeat (first | (with_reducible first | exact HB.out | apply below_alloc | apply pw_below_drewN | apply below_drew1) | exact HB.out)) hb); clear HO_12; clear HO_14; clear HB; have HO_12 := n0_; have HO_14 := n1_; have HO263 := n2_; have HB := n3_; clear n0_ n1_ n2_ n3_; (try clear hb); (try clear hb2); (try clear hk); (try clear hi); (try clear ho0); obtain ⟨Ao44, co44, eo44⟩ := Kd.R_slice HO_12.out; subst eo44; obtain ⟨Ao45, co45, eo45⟩ := Kd.R_slice HO263.out; subst eo45) | (go_at_call 16; (with_reducible refine (portageref17_Run.calls kj30 _ _ t261 _ _ x12_30 (x12_30.length : Int) 0 t264 t265 _ ?side1 ?side2 ?side3 ?side4 A35.out).mono ?_); (case side1 => repeat (first | exact (Kd.R_reads' HO263.out).2.2 | (with_reducible refine Kd.C_alloc ?_ _) | (with_reducible refine Kd.C_drewN ?_ _) | (with_reducible refine Kd.C_drew ?_))); (case side2 => exact (Kd.R_reads' HO263.out).2.1); (case side3 => repeat (first | exact (Kd.R_reads' HO_12.out).2.2 | (with_reducible refine Kd.C_alloc ?_ _) | (with_reducible refine Kd.C_drewN ?_ _) | (with_reducible refine Kd.C_drew ?_))); (case side4 => exact (Kd.R_reads' HO_12.out).2.1); rintro e w46 ⟨v266, rfl, ho0, hb⟩; have n0_ := Aside0.mk (Kd.R_below (by (with_reducible repeat (first | apply Kd.R_alloc | apply Kd.R_drewN | apply Kd.R_drew)); exact HO_12.out) hb); have n1_ := Aside0.mk (Kd.R_below (by (with_reducible repeat (first | apply Kd.R_alloc | apply Kd.R_drewN | apply Kd.R_drew)); exact HO_14.out) hb); have n2_ := Aside0.mk (Kd.R_elder' (by (with_reducible repeat (first | apply Kd.R_alloc | apply Kd.R_drewN | apply Kd.R_drew)); exact HO263.out) (Kd.R_base ho0) hb); have n3_ := Aside0.mk (Kd.R_lower (Kd.R_new' ho0 (Kd.R_lt (by (with_reducible repeat (first | apply Kd.R_alloc | apply Kd.R_drewN | apply Kd.R_drew)); exact HO263.out))) (below_size (by repeat (first | (with_reducible first | exact HB.out | apply below_alloc | apply pw_below_drewN | apply below_drew1) | exact HB.out)))); have n4_ := Aside0.mk (below_step (by repeat (first | (with_reducible first | exact HB.out | apply below_alloc | apply pw_below_drewN | apply below_drew1) | exact HB.out)) hb); clear HO_12; clear HO_14; clear HO263; clear HB; have HO_12 := n0_; have HO_14 := n1_; have HO263 := n2_; have HO267 := n3_; have HB := n4_; clear n0_ n1_ n2_ n3_ n4_; (try clear hb); (try clear hb2); (try clear hk); (try clear hi); (try clear ho0); obtain ⟨Ao47, co47, eo47⟩ := Kd.R_slice HO_14.out; subst eo47; obtain ⟨Ao48, co48, eo48⟩ := Kd.R_slice HO267.out; subst eo48) | (go_at_call 16; (with_reducible refine (portageref17_Run.calls kj30 _ _ t264 _ _ x14_30 (x14_30.length : Int) 0 t268 t269 _ ?side1 ?side2 ?side3 ?side4 A36.out).mono ?_); (case side1 => repeat (first | exact (Kd.R_reads' HO267.out).2.2 | (with_reducible refine Kd.C_alloc ?_ _) | (with_reducible refine Kd.C_drewN ?_ _) | (with_reducible refine Kd.C_drew ?_))); (case side2 => exact (Kd.R_reads' HO267.out).2.1); (case side3 => repeat (first | exact (Kd.R_reads' HO_14.out).2.2 | (with_reducible refine Kd.C_alloc ?_ _) | (with_reducible refine Kd.C_drewN ?_ _) | (with_reducible refine Kd.C_drew ?_))); (case side4 => exact (Kd.R_reads' HO_14.out).2.1); rintro e w49 ⟨v270, rfl, ho0, hb⟩; have n0_ := Aside0.mk (Kd.R_below (by (with_reducible repeat (first | apply Kd.R_alloc | apply Kd.R_drewN | apply Kd.R_drew)); exact HO_12.out) hb); have n1_ := Aside0.mk (Kd.R_below (by (with_reducible repeat (first | apply Kd.R_alloc | apply Kd.R_drewN | apply Kd.R_drew)); exact HO_14.out) hb); have n2_ := Aside0.mk (Kd.R_elder' (by (with_reducible repeat (first | apply Kd.R_alloc | apply Kd.R_drewN | apply Kd.R_drew)); exact HO263.out) (Kd.R_base ho0) hb); have n3_ := Aside0.mk (Kd.R_elder' (by (with_reducible repeat (first | apply Kd.R_alloc | apply Kd.R_drewN | apply Kd.R_drew)); exact HO267.out) (Kd.R_base ho0) hb); have n4_ := Aside0.mk (Kd.R_lower (Kd.R_new' (Kd.R_new' ho0 (Kd.R_lt (by (with_reducible repeat (first | apply Kd.R_alloc | apply Kd.R_drewN | apply Kd.R_drew)); exact HO263.out))) (Kd.R_lt (by (with_reducible repeat (first | apply Kd.R_alloc | apply Kd.R_drewN | apply Kd.R_drew)); exact HO267.out))) (below_size (by repeat (first | (with_reducible first | exact HB.out | apply below_alloc | apply pw_below_drewN | apply below_drew1) | exact HB.out)))); have n5_ := Aside0.mk (below_step (by repeat (first | (with_reducible first | exact HB.out | apply below_alloc | apply pw_below_drewN | apply below_drew1) | exact HB.out)) hb); clear HO_12; clear HO_14; clear HO263; clear HO267; clear HB; have HO_12 := n0_; have HO_14 := n1_; have HO263 := n2_; have HO267 := n3_; have HO271 := n4_; have HB := n5_; clear n0_ n1_ n2_ n3_ n4_ n5_; (try clear hb); (try clear hb2); (try clear hk); (try clear hi); (try clear ho0); obtain ⟨Ao50, co50, eo50⟩ := Kd.R_slice HO271.out; subst eo50) | (go_at_call 27; (with_reducible refine (slot_Find.calls kj30 _ _ t268 t272 t273 t274 _ ?side1 ?side2 A37.out).mono ?_); (case side1 => repeat (first | exact (Kd.R_reads' HO271.out).2.2 | (with_reducible refine Kd.C_alloc ?_ _) | (with_reducible refine Kd.C_drewN ?_ _) | (with_reducible refine Kd.C_drew ?_))); (case side2 => exact (Kd.R_reads' HO271.out).2.1); rintro e w51 ⟨rfl, hb⟩; have n0_ := Aside0.mk (Kd.R_below (by (with_reducible repeat (first | apply Kd.R_alloc | apply Kd.R_drewN | apply Kd.R_drew)); exact HO_12.out) hb); have n1_ := Aside0.mk (Kd.R_below (by (with_reducible repeat (first | apply Kd.R_alloc | apply Kd.R_drewN | apply Kd.R_drew)); exact HO_14.out) hb); have n2_ := Aside0.mk (Kd.R_below (by (with_reducible repeat (first | apply Kd.R_alloc | apply Kd.R_drewN | apply Kd.R_drew)); exact HO263.out) hb); have n3_ := Aside0.mk (Kd.R_below (by (with_reducible repeat (first | apply Kd.R_alloc | apply Kd.R_drewN | apply Kd.R_drew)); exact HO267.out) hb); have n4_ := Aside0.mk (Kd.R_below (by (with_reducible repeat (first | apply Kd.R_alloc | apply Kd.R_drewN | apply Kd.R_drew)); exact HO271.out) hb); have n5_ := Aside0.mk (below_step (by repeat (first | (with_reducible first | exact HB.out | apply below_alloc | apply pw_below_drewN | apply below_drew1) | exact HB.out)) hb); clear HO_12; clear HO_14; clear HO263; clear HO267; clear HO271; clear HB; have HO_12 := n0_; have HO_14 := n1_; have HO263 := n2_; have HO267 := n3_; have HO271 := n4_; have HB := n5_; clear n0_ n1_ n2_ n3_ n4_ n5_; (try clear hb); (try clear hb2); (try clear hk); (try clear hi)) | (go_at_call 18; (with_reducible refine (portagelaw0_Num.calls t274 t275 _ A40.out).mono ?_); rintro e w' ⟨rfl, ⟨nd, rfl⟩⟩; (try first | exact ⟨rfl, _, World.drewN_drewN _ _ _⟩ | exact ⟨rfl, _, Eq.trans (World.drewN_drewN _ _ _) (congrArg (World.drewN _) (Nat.add_assoc _ _ _))⟩))); try go_wp2_with (first | (go_at_call 12; (with_reducible refine (portageref17_NewDisk.calls kj30  t261 _ A34.out).mono ?_); rintro e w43 ⟨v262, rfl, ho0, hb⟩; have n0_ := Aside0.mk (Kd.R_below (by (with_reducible repeat (first | apply Kd.R_alloc | apply Kd.R_drewN | apply Kd.R_drew)); exact HO_12.out) hb); have n1_ := Aside0.mk (Kd.R_below (by (with_reducible repeat (first | apply Kd.R_alloc | apply Kd.R_drewN | apply Kd.R_drew)); exact HO_14.out) hb); have n2_ := Aside0.mk (Kd.R_lower ho0 (below_size (by repeat (first | (with_reducible first | exact HB.out | apply below_alloc | apply pw_below_drewN | apply below_drew1) | exact HB.out)))); have n3_ := Aside0.mk (below_step (by repeat (first | (with_reducible first | exact HB.out | apply below_alloc | apply pw_below_drewN | apply below_drew1) | exact HB.out)) hb); clear HO_12; clear HO_14; clear HB; have HO_12 := n0_; have HO_14 := n1_; have HO263 := n2_; have HB := n3_; clear n0_ n1_ n2_ n3_; (try clear hb); (try clear hb2); (try clear hk); (try clear hi); (try clear ho0); obtain ⟨Ao44, co44, eo44⟩ := Kd.R_slice HO_12.out; subst eo44; obtain ⟨Ao45, co45, eo45⟩ := Kd.R_slice HO263.out; subst eo45) | (go_at_call 16; (with_reducible refine (portageref17_Run.calls kj30 _ _ t261 _ _ x12_30 (x12_30.length : Int) 0 t264 t265 _ ?side1 ?side2 ?side3 ?side4 A35.out).mono ?_); (case side1 => repeat (first | exact (Kd.R_reads' HO263.out).2.2 | (with_reducible refine Kd.C_alloc ?_ _) | (with_reducible refine Kd.C_drewN ?_ _) | (with_reducible refine Kd.C_drew ?_))); (case side2 => exact (Kd.R_reads' HO263.out).2.1); (case side3 => repeat (first | exact (Kd.R_reads' HO_12.out).2.2 | (with_reducible refine Kd.C_alloc ?_ _) | (with_reducible refine Kd.C_drewN ?_ _) | (with_reducible refine Kd.C_drew ?_))); (case side4 => exact (Kd.R_reads' HO_12.out).2.1); rintro e w46 ⟨v266, rfl, ho0, hb⟩; have n0_ := Aside0.mk (Kd.R_below (by (with_reducible repeat (first | apply Kd.R_alloc | apply Kd.R_drewN | apply Kd.R_drew)); exact HO_12.out) hb); have n1_ := Aside0.mk (Kd.R_below (by (with_reducible repeat (first | apply Kd.R_alloc | apply Kd.R_drewN | apply Kd.R_drew)); exact HO_14.out) hb); have n2_ := Aside0.mk (Kd.R_elder' (by (with_reducible repeat (first | apply Kd.R_alloc | apply Kd.R_drewN | apply Kd.R_drew)); exact HO263.out) (Kd.R_base ho0) hb); have n3_ := Aside0.mk (Kd.R_lower (Kd.R_new' ho0 (Kd.R_lt (by (with_reducible repeat (first | apply Kd.R_alloc | apply Kd.R_drewN | apply Kd.R_drew)); exact HO263.out))) (below_size (by repeat (first | (with_reducible first | exact HB.out | apply below_alloc | apply pw_below_drewN | apply below_drew1) | exact HB.out)))); have n4_ := Aside0.mk (below_step (by repeat (first | (with_reducible first | exact HB.out | apply below_alloc | apply pw_below_drewN | apply below_drew1) | exact HB.out)) hb); clear HO_12; clear HO_14; clear HO263; clear HB; have HO_12 := n0_; have HO_14 := n1_; have HO263 := n2_; have HO267 := n3_; have HB := n4_; clear n0_ n1_ n2_ n3_ n4_; (try clear hb); (try clear hb2); (try clear hk); (try clear hi); (try clear ho0); obtain ⟨Ao47, co47, eo47⟩ := Kd.R_slice HO_14.out; subst eo47; obtain ⟨Ao48, co48, eo48⟩ := Kd.R_slice HO267.out; subst eo48) | (go_at_call 16; (with_reducible refine (portageref17_Run.calls kj30 _ _ t264 _ _ x14_30 (x14_30.length : Int) 0 t268 t269 _ ?side1 ?side2 ?side3 ?side4 A36.out).mono ?_); (case side1 => repeat (first | exact (Kd.R_reads' HO267.out).2.2 | (with_reducible refine Kd.C_alloc ?_ _) | (with_reducible refine Kd.C_drewN ?_ _) | (with_reducible refine Kd.C_drew ?_))); (case side2 => exact (Kd.R_reads' HO267.out).2.1); (case side3 => repeat (first | exact (Kd.R_reads' HO_14.out).2.2 | (with_reducible refine Kd.C_alloc ?_ _) | (with_reducible refine Kd.C_drewN ?_ _) | (with_reducible refine Kd.C_drew ?_))); (case side4 => exact (Kd.R_reads' HO_14.out).2.1); rintro e w49 ⟨v270, rfl, ho0, hb⟩; have n0_ := Aside0.mk (Kd.R_below (by (with_reducible repeat (first | apply Kd.R_alloc | apply Kd.R_drewN | apply Kd.R_drew)); exact HO_12.out) hb); have n1_ := Aside0.mk (Kd.R_below (by (with_reducible repeat (first | apply Kd.R_alloc | apply Kd.R_drewN | apply Kd.R_drew)); exact HO_14.out) hb); have n2_ := Aside0.mk (Kd.R_elder' (by (with_reducible repeat (first | apply Kd.R_alloc | apply Kd.R_drewN | apply Kd.R_drew)); exact HO263.out) (Kd.R_base ho0) hb); have n3_ := Aside0.mk (Kd.R_elder' (by (with_reducible repeat (first | apply Kd.R_alloc | apply Kd.R_drewN | apply Kd.R_drew)); exact HO267.out) (Kd.R_base ho0) hb); have n4_ := Aside0.mk (Kd.R_lower (Kd.R_new' (Kd.R_new' ho0 (Kd.R_lt (by (with_reducible repeat (first | apply Kd.R_alloc | apply Kd.R_drewN | apply Kd.R_drew)); exact HO263.out))) (Kd.R_lt (by (with_reducible repeat (first | apply Kd.R_alloc | apply Kd.R_drewN | apply Kd.R_drew)); exact HO267.out))) (below_size (by repeat (first | (with_reducible first | exact HB.out | apply below_alloc | apply pw_below_drewN | apply below_drew1) | exact HB.out)))); have n5_ := Aside0.mk (below_step (by repeat (first | (with_reducible first | exact HB.out | apply below_alloc | apply pw_below_drewN | apply below_drew1) | exact HB.out)) hb); clear HO_12; clear HO_14; clear HO263; clear HO267; clear HB; have HO_12 := n0_; have HO_14 := n1_; have HO263 := n2_; have HO267 := n3_; have HO271 := n4_; have HB := n5_; clear n0_ n1_ n2_ n3_ n4_ n5_; (try clear hb); (try clear hb2); (try clear hk); (try clear hi); (try clear ho0); obtain ⟨Ao50, co50, eo50⟩ := Kd.R_slice HO271.out; subst eo50) | (go_at_call 27; (with_reducible refine (slot_Find.calls kj30 _ _ t268 t272 t273 t274 _ ?side1 ?side2 A37.out).mono ?_); (case side1 => repeat (first | exact (Kd.R_reads' HO271.out).2.2 | (with_reducible refine Kd.C_alloc ?_ _) | (with_reducible refine Kd.C_drewN ?_ _) | (with_reducible refine Kd.C_drew ?_))); (case side2 => exact (Kd.R_reads' HO271.out).2.1); rintro e w51 ⟨rfl, hb⟩; have n0_ := Aside0.mk (Kd.R_below (by (with_reducible repeat (first | apply Kd.R_alloc | apply Kd.R_drewN | apply Kd.R_drew)); exact HO_12.out) hb); have n1_ := Aside0.mk (Kd.R_below (by (with_reducible repeat (first | apply Kd.R_alloc | apply Kd.R_drewN | apply Kd.R_drew)); exact HO_14.out) hb); have n2_ := Aside0.mk (Kd.R_below (by (with_reducible repeat (first | apply Kd.R_alloc | apply Kd.R_drewN | apply Kd.R_drew)); exact HO263.out) hb); have n3_ := Aside0.mk (Kd.R_below (by (with_reducible repeat (first | apply Kd.R_alloc | apply Kd.R_drewN | apply Kd.R_drew)); exact HO267.out) hb); have n4_ := Aside0.mk (Kd.R_below (by (with_reducible repeat (first | apply Kd.R_alloc | apply Kd.R_drewN | apply Kd.R_drew)); exact HO271.out) hb); have n5_ := Aside0.mk (below_step (by repeat (first | (with_reducible first | exact HB.out | apply below_alloc | apply pw_below_drewN | apply below_drew1) | exact HB.out)) hb); clear HO_12; clear HO_14; clear HO263; clear HO267; clear HO271; clear HB; have HO_12 := n0_; have HO_14 := n1_; have HO263 := n2_; have HO267 := n3_; have HO271 := n4_; have HB := n5_; clear n0_ n1_ n2_ n3_ n4_ n5_; (try clear hb); (try clear hb2); (try clear hk); (try clear hi)) | (go_at_call 18; (with_reducible refine (portagelaw0_Num.calls t274 t275 _ A40.out).mono ?_); rintro e w' ⟨rfl, ⟨nd, rfl⟩⟩; (try first | exact ⟨rfl, _, World.drewN_drewN _ _ _⟩ | exact ⟨rfl, _, Eq.trans (World.drewN_drewN _ _ _) (congrArg (World.drewN _) (Nat.add_assoc _ _ _))⟩))))
                            go_ret
                            exact ⟨by first | rfl | (simp [errW_none, errW_some] <;> rfl) | (simp only [← hji21]; first | rfl | (simp [errW_none, errW_some] <;> rfl)) | (simp [*, errW_none, errW_some] <;> rfl), by repeat (first | (with_reducible first | exact HB.out | apply below_alloc | apply pw_below_drewN | apply below_drew1) | exact HB.out)⟩
                          · rw [if_neg c42] at H
                            exact absurd H (by simp)
                        · rw [if_neg c41] at H
                          exact absurd H (by simp)
                      · rw [if_neg c39] at H
                        exact absurd H (by simp)
                    · rw [if_neg c38] at H
                      exact absurd H (by simp)
  · replace c6 := Bool.eq_false_iff.mpr c6
    subst c6
    have H1 : (none) = some r := by rw [if_neg (show ¬ (false = true) by decide)] at H; exact H
    clear H
    have H := H1
    clear H1
    exact absurd H (by simp)

/-- THE ONE PURE STATEMENT of portagelaw18_SlotTwo: yours. -/
def portagelaw18_SlotTwo.Pure : Prop := ∀ (a0 : Int) (a1 : Int) (a2 : Int) (a3 : Bool), (Lit.int .i64 a0).wf = true → (Lit.int .i64 a1).wf = true → (Lit.int .i64 a2).wf = true → ∃ k, portagelaw18_SlotTwo.f k a0 a1 a2 a3 = some true
theorem portagelaw18_SlotTwo.walk (P : portagelaw18_SlotTwo.Pure) (a0 : Int) (a1 : Int) (a2 : Int) (a3 : Bool) (w : World) (w0 : (Lit.int .i64 a0).wf = true) (w1 : (Lit.int .i64 a1).wf = true) (w2 : (Lit.int .i64 a2).wf = true) :
    Calls Try.prog 10 #[.int .i64 a0, .int .i64 a1, .int .i64 a2, .bool a3] w fun e w' => e = .returned (.bool true) ∧ Below w.heap.size w w' := by
  obtain ⟨k, h⟩ := P a0 a1 a2 a3 w0 w1 w2
  refine (portagelaw18_SlotTwo.calls k a0 a1 a2 a3 true w h).mono ?_
  rintro e w' ⟨rfl, hd⟩
  exact ⟨rfl, hd⟩

end Go.Proofs.Ytdccnjinehcenaa.L
