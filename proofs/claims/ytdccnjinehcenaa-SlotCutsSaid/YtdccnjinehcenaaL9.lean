-- Written by a program of this session out of the translation (a changed copy of the kit's printer).
import Derived.Test.YtdccnjinehcenaaL0
import Derived.Test.YtdccnjinehcenaaL1
import Derived.Test.YtdccnjinehcenaaL2
import Derived.Test.YtdccnjinehcenaaL3
import Derived.Test.YtdccnjinehcenaaL4
import Derived.Test.YtdccnjinehcenaaL8
namespace Go.Proofs.Ytdccnjinehcenaa.L
open Go.RowKit Go.Proofs.YtdccnjinehcenaaW.PrintWords Go.Proofs.YtdccnjinehcenaaW.PrintLast Go.Proofs.YtdccnjinehcenaaW.PrintMore
attribute [local go_sem] max2_int min2_int max_two min_two max_three min_three max_four min_four   -- for this text's walks alone
set_option linter.unusedVariables false
set_option linter.unusedSimpArgs false

/-! ### portagelaw18_SlotCuts: function 8 -/
mutual
def portagelaw18_SlotCuts.l0 : Nat → List Int → Int → Int → List ByteArray → ByteArray → Int → Int → Option (Bool)
  | 0, _, _, _, _, _, _, _ => none
  | k + 1, x0, x1, x2, x7, x8, x9, x10 => if x10 < (x0.length : Int) then (portagelaw18_SlotCuts.j1 k x0 x1 x2 x7 x8 x9 x10 (decide (x10 < 5))) else (portagelaw18_SlotCuts.j1 k x0 x1 x2 x7 x8 x9 x10 false)
def portagelaw18_SlotCuts.j1 : Nat → List Int → Int → Int → List ByteArray → ByteArray → Int → Int → Bool → Option (Bool)
  | 0, _, _, _, _, _, _, _, _ => none
  | k + 1, x0, x1, x2, x7, x8, x9, x10, x34 => if x34 = true then (if 0 ≤ x10 then (if x10 < (x0.length : Int) then ((portagelaw18_text.f k (wrap64 (Int.tmod (IntKind.u64.wrap (rd x0 x10)) 4097)) ((x10) % 256)).bind fun t226 => ((slot_Plan.f k (wrap64 (x10 + 1)) t226).bind fun bt227 => ((portagelaw0_Num.f bt227.2).bind fun t231 => (if t231 = 0 then (portagelaw18_SlotCuts.j2 k x0 x1 x2 x7 x8 x9 x10 t226 bt227.1 ((bt227.1.length : Int) != (wrap64 (2 + (wrap64 (Int.tdiv (wrap64 ((wrap64 ((t226.size : Int) + 64)) - 1)) 64)))))) else (portagelaw18_SlotCuts.j2 k x0 x1 x2 x7 x8 x9 x10 t226 bt227.1 true))))) else (none)) else (none)) else (some true)
def portagelaw18_SlotCuts.j2 : Nat → List Int → Int → Int → List ByteArray → ByteArray → Int → Int → ByteArray → List (S42) → Bool → Option (Bool)
  | 0, _, _, _, _, _, _, _, _, _, _ => none
  | k + 1, x0, x1, x2, x7, x8, x9, x10, x11, x12, x67 => if x67 = true then (none) else (if x10 = ((mn (x0.length : Int) 5) - 1) then (if (IntKind.u64.wrap (wrap64 ((x12.length : Int) + 1))) = 0 then (none) else (if (wrap64 (Int.tmod (IntKind.u64.wrap (x1)) (IntKind.u64.wrap (wrap64 ((x12.length : Int) + 1))))) = (x12.length : Int) then (portagelaw18_SlotCuts.j3 k x7 x8 x9 x10 x11 x12 (wrap64 (Int.tmod (IntKind.u64.wrap (x1)) (IntKind.u64.wrap (wrap64 ((x12.length : Int) + 1))))) 0) else (portagelaw18_SlotCuts.j3 k x7 x8 x9 x10 x11 x12 (wrap64 (Int.tmod (IntKind.u64.wrap (x1)) (IntKind.u64.wrap (wrap64 ((x12.length : Int) + 1))))) (wrap64 (Int.tmod (IntKind.u64.wrap (x2)) 65))))) else ((portageref17_Run.f k x7 x12 (x12.length : Int) 0).bind fun bt242 => (if bt242.2 = 0 then (portagelaw18_SlotCuts.l0 k x0 x1 x2 bt242.1 x11 (wrap64 (x10 + 1)) (wrap64 (x10 + 1))) else (none))))
def portagelaw18_SlotCuts.j3 : Nat → List ByteArray → ByteArray → Int → Int → ByteArray → List (S42) → Int → Int → Option (Bool)
  | 0, _, _, _, _, _, _, _, _ => none
  | k + 1, x7, x8, x9, x10, x11, x12, x14, x15 => (portageref17_Run.f k x7 x12 x14 x15).bind fun bt232 => ((slot_Find.f k bt232.1).bind fun bt236 => (if x14 = (x12.length : Int) then (portagelaw18_SlotCuts.j4 k x8 x9 x10 x11 bt232.2 bt236.1 bt236.2.1 bt236.2.2 true) else (if x14 = (wrap64 ((x12.length : Int) - 1)) then (portagelaw18_SlotCuts.j4 k x8 x9 x10 x11 bt232.2 bt236.1 bt236.2.1 bt236.2.2 (x15 == 64)) else (portagelaw18_SlotCuts.j4 k x8 x9 x10 x11 bt232.2 bt236.1 bt236.2.1 bt236.2.2 false))))
def portagelaw18_SlotCuts.j4 : Nat → ByteArray → Int → Int → ByteArray → Int → Int → ByteArray → Int → Bool → Option (Bool)
  | 0, _, _, _, _, _, _, _, _, _ => none
  | k + 1, x8, x9, x10, x11, x17, x18, x19, x20, x21 => if x17 = 0 then (if x21 = true then ((portagelaw0_Num.f x20).bind fun t239 => (if t239 = 0 then (if x18 = (wrap64 (x10 + 1)) then (some (x19.toList == x11.toList)) else (none)) else (none))) else (if x9 = 0 then ((portagelaw0_Num.f x20).bind fun t240 => (some (t240 == 1801))) else ((portagelaw0_Num.f x20).bind fun t241 => (if t241 = 0 then (if x18 = x9 then (some (x19.toList == x8.toList)) else (none)) else (none))))) else (none)
end
def portagelaw18_SlotCuts.f (k : Nat) (l0 : List Int) (a1 : Int) (a2 : Int) : Option (Bool) := (portagelaw18_awake.f k).bind fun t221 => (if t221 = true then ((portageref17_NewDisk.f k).bind fun t222 => (portagelaw18_SlotCuts.l0 k l0 a1 a2 t222 (⟨#[]⟩ : ByteArray) 0 0)) else (none))
theorem portagelaw18_SlotCuts.mono_l : ∀ k, (∀ y0 y1 y2 y3 y4 y5 y6, LeO (portagelaw18_SlotCuts.l0 k y0 y1 y2 y3 y4 y5 y6) (portagelaw18_SlotCuts.l0 (k + 1) y0 y1 y2 y3 y4 y5 y6)) ∧ (∀ y0 y1 y2 y3 y4 y5 y6 y7, LeO (portagelaw18_SlotCuts.j1 k y0 y1 y2 y3 y4 y5 y6 y7) (portagelaw18_SlotCuts.j1 (k + 1) y0 y1 y2 y3 y4 y5 y6 y7)) ∧ (∀ y0 y1 y2 y3 y4 y5 y6 y7 y8 y9, LeO (portagelaw18_SlotCuts.j2 k y0 y1 y2 y3 y4 y5 y6 y7 y8 y9) (portagelaw18_SlotCuts.j2 (k + 1) y0 y1 y2 y3 y4 y5 y6 y7 y8 y9)) ∧ (∀ y0 y1 y2 y3 y4 y5 y6 y7, LeO (portagelaw18_SlotCuts.j3 k y0 y1 y2 y3 y4 y5 y6 y7) (portagelaw18_SlotCuts.j3 (k + 1) y0 y1 y2 y3 y4 y5 y6 y7)) ∧ (∀ y0 y1 y2 y3 y4 y5 y6 y7 y8, LeO (portagelaw18_SlotCuts.j4 k y0 y1 y2 y3 y4 y5 y6 y7 y8) (portagelaw18_SlotCuts.j4 (k + 1) y0 y1 y2 y3 y4 y5 y6 y7 y8))
  | 0 => ⟨fun _ _ _ _ _ _ _ r h => by simp [portagelaw18_SlotCuts.l0] at h, fun _ _ _ _ _ _ _ _ r h => by simp [portagelaw18_SlotCuts.j1] at h, fun _ _ _ _ _ _ _ _ _ _ r h => by simp [portagelaw18_SlotCuts.j2] at h, fun _ _ _ _ _ _ _ _ r h => by simp [portagelaw18_SlotCuts.j3] at h, fun _ _ _ _ _ _ _ _ _ r h => by simp [portagelaw18_SlotCuts.j4] at h⟩
  | k + 1 => by
    obtain ⟨ih0, ih1, ih2, ih3, ih4⟩ := portagelaw18_SlotCuts.mono_l k
    refine ⟨?_, ?_, ?_, ?_, ?_⟩
    · intro y0 y1 y2 y3 y4 y5 y6
      unfold portagelaw18_SlotCuts.l0
      repeat' first
      | (with_reducible exact ih0 _ _ _ _ _ _ _)
      | (with_reducible exact ih1 _ _ _ _ _ _ _ _)
      | (with_reducible exact ih2 _ _ _ _ _ _ _ _ _ _)
      | (with_reducible exact ih3 _ _ _ _ _ _ _ _)
      | (with_reducible exact ih4 _ _ _ _ _ _ _ _ _)
      | (with_reducible exact portagelaw18_awake.mono _)
      | (with_reducible exact portagelaw18_text.mono _ _ _)
      | (with_reducible exact portageref17_NewDisk.mono _)
      | (with_reducible exact portageref17_Run.mono _ _ _ _ _)
      | (with_reducible exact slot_Find.mono _ _)
      | (with_reducible exact slot_Plan.mono _ _ _)
      | (with_reducible exact LeO.refl _)
      | (with_reducible exact LeO.none _)
      | (with_reducible refine LeO.ite ?_ ?_)
      | (with_reducible refine LeO.bind ?_ (fun _ => ?_))
      | exact ih0 _ _ _ _ _ _ _
      | exact ih1 _ _ _ _ _ _ _ _
      | exact ih2 _ _ _ _ _ _ _ _ _ _
      | exact ih3 _ _ _ _ _ _ _ _
      | exact ih4 _ _ _ _ _ _ _ _ _
      | exact portagelaw18_awake.mono _
      | exact portagelaw18_text.mono _ _ _
      | exact portageref17_NewDisk.mono _
      | exact portageref17_Run.mono _ _ _ _ _
      | exact slot_Find.mono _ _
      | exact slot_Plan.mono _ _ _
      | exact LeO.none _
      | refine LeO.ite ?_ ?_
      | refine LeO.bind ?_ (fun _ => ?_)
    · intro y0 y1 y2 y3 y4 y5 y6 y7
      unfold portagelaw18_SlotCuts.j1
      repeat' first
      | (with_reducible exact ih0 _ _ _ _ _ _ _)
      | (with_reducible exact ih1 _ _ _ _ _ _ _ _)
      | (with_reducible exact ih2 _ _ _ _ _ _ _ _ _ _)
      | (with_reducible exact ih3 _ _ _ _ _ _ _ _)
      | (with_reducible exact ih4 _ _ _ _ _ _ _ _ _)
      | (with_reducible exact portagelaw18_awake.mono _)
      | (with_reducible exact portagelaw18_text.mono _ _ _)
      | (with_reducible exact portageref17_NewDisk.mono _)
      | (with_reducible exact portageref17_Run.mono _ _ _ _ _)
      | (with_reducible exact slot_Find.mono _ _)
      | (with_reducible exact slot_Plan.mono _ _ _)
      | (with_reducible exact LeO.refl _)
      | (with_reducible exact LeO.none _)
      | (with_reducible refine LeO.ite ?_ ?_)
      | (with_reducible refine LeO.bind ?_ (fun _ => ?_))
      | exact ih0 _ _ _ _ _ _ _
      | exact ih1 _ _ _ _ _ _ _ _
      | exact ih2 _ _ _ _ _ _ _ _ _ _
      | exact ih3 _ _ _ _ _ _ _ _
      | exact ih4 _ _ _ _ _ _ _ _ _
      | exact portagelaw18_awake.mono _
      | exact portagelaw18_text.mono _ _ _
      | exact portageref17_NewDisk.mono _
      | exact portageref17_Run.mono _ _ _ _ _
      | exact slot_Find.mono _ _
      | exact slot_Plan.mono _ _ _
      | exact LeO.none _
      | refine LeO.ite ?_ ?_
      | refine LeO.bind ?_ (fun _ => ?_)
    · intro y0 y1 y2 y3 y4 y5 y6 y7 y8 y9
      unfold portagelaw18_SlotCuts.j2
      repeat' first
      | (with_reducible exact ih0 _ _ _ _ _ _ _)
      | (with_reducible exact ih1 _ _ _ _ _ _ _ _)
      | (with_reducible exact ih2 _ _ _ _ _ _ _ _ _ _)
      | (with_reducible exact ih3 _ _ _ _ _ _ _ _)
      | (with_reducible exact ih4 _ _ _ _ _ _ _ _ _)
      | (with_reducible exact portagelaw18_awake.mono _)
      | (with_reducible exact portagelaw18_text.mono _ _ _)
      | (with_reducible exact portageref17_NewDisk.mono _)
      | (with_reducible exact portageref17_Run.mono _ _ _ _ _)
      | (with_reducible exact slot_Find.mono _ _)
      | (with_reducible exact slot_Plan.mono _ _ _)
      | (with_reducible exact LeO.refl _)
      | (with_reducible exact LeO.none _)
      | (with_reducible refine LeO.ite ?_ ?_)
      | (with_reducible refine LeO.bind ?_ (fun _ => ?_))
      | exact ih0 _ _ _ _ _ _ _
      | exact ih1 _ _ _ _ _ _ _ _
      | exact ih2 _ _ _ _ _ _ _ _ _ _
      | exact ih3 _ _ _ _ _ _ _ _
      | exact ih4 _ _ _ _ _ _ _ _ _
      | exact portagelaw18_awake.mono _
      | exact portagelaw18_text.mono _ _ _
      | exact portageref17_NewDisk.mono _
      | exact portageref17_Run.mono _ _ _ _ _
      | exact slot_Find.mono _ _
      | exact slot_Plan.mono _ _ _
      | exact LeO.none _
      | refine LeO.ite ?_ ?_
      | refine LeO.bind ?_ (fun _ => ?_)
    · intro y0 y1 y2 y3 y4 y5 y6 y7
      unfold portagelaw18_SlotCuts.j3
      repeat' first
      | (with_reducible exact ih0 _ _ _ _ _ _ _)
      | (with_reducible exact ih1 _ _ _ _ _ _ _ _)
      | (with_reducible exact ih2 _ _ _ _ _ _ _ _ _ _)
      | (with_reducible exact ih3 _ _ _ _ _ _ _ _)
      | (with_reducible exact ih4 _ _ _ _ _ _ _ _ _)
      | (with_reducible exact portagelaw18_awake.mono _)
      | (with_reducible exact portagelaw18_text.mono _ _ _)
      | (with_reducible exact portageref17_NewDisk.mono _)
      | (with_reducible exact portageref17_Run.mono _ _ _ _ _)
      | (with_reducible exact slot_Find.mono _ _)
      | (with_reducible exact slot_Plan.mono _ _ _)
      | (with_reducible exact LeO.refl _)
      | (with_reducible exact LeO.none _)
      | (with_reducible refine LeO.ite ?_ ?_)
      | (with_reducible refine LeO.bind ?_ (fun _ => ?_))
      | exact ih0 _ _ _ _ _ _ _
      | exact ih1 _ _ _ _ _ _ _ _
      | exact ih2 _ _ _ _ _ _ _ _ _ _
      | exact ih3 _ _ _ _ _ _ _ _
      | exact ih4 _ _ _ _ _ _ _ _ _
      | exact portagelaw18_awake.mono _
      | exact portagelaw18_text.mono _ _ _
      | exact portageref17_NewDisk.mono _
      | exact portageref17_Run.mono _ _ _ _ _
      | exact slot_Find.mono _ _
      | exact slot_Plan.mono _ _ _
      | exact LeO.none _
      | refine LeO.ite ?_ ?_
      | refine LeO.bind ?_ (fun _ => ?_)
    · intro y0 y1 y2 y3 y4 y5 y6 y7 y8
      unfold portagelaw18_SlotCuts.j4
      repeat' first
      | (with_reducible exact ih0 _ _ _ _ _ _ _)
      | (with_reducible exact ih1 _ _ _ _ _ _ _ _)
      | (with_reducible exact ih2 _ _ _ _ _ _ _ _ _ _)
      | (with_reducible exact ih3 _ _ _ _ _ _ _ _)
      | (with_reducible exact ih4 _ _ _ _ _ _ _ _ _)
      | (with_reducible exact portagelaw18_awake.mono _)
      | (with_reducible exact portagelaw18_text.mono _ _ _)
      | (with_reducible exact portageref17_NewDisk.mono _)
      | (with_reducible exact portageref17_Run.mono _ _ _ _ _)
      | (with_reducible exact slot_Find.mono _ _)
      | (with_reducible exact slot_Plan.mono _ _ _)
      | (with_reducible exact LeO.refl _)
      | (with_reducible exact LeO.none _)
      | (with_reducible refine LeO.ite ?_ ?_)
      | (with_reducible refine LeO.bind ?_ (fun _ => ?_))
      | exact ih0 _ _ _ _ _ _ _
      | exact ih1 _ _ _ _ _ _ _ _
      | exact ih2 _ _ _ _ _ _ _ _ _ _
      | exact ih3 _ _ _ _ _ _ _ _
      | exact ih4 _ _ _ _ _ _ _ _ _
      | exact portagelaw18_awake.mono _
      | exact portagelaw18_text.mono _ _ _
      | exact portageref17_NewDisk.mono _
      | exact portageref17_Run.mono _ _ _ _ _
      | exact slot_Find.mono _ _
      | exact slot_Plan.mono _ _ _
      | exact LeO.none _
      | refine LeO.ite ?_ ?_
      | refine LeO.bind ?_ (fun _ => ?_)
theorem portagelaw18_SlotCuts.mono : ∀ a0 a1 a2 k, LeO (portagelaw18_SlotCuts.f k a0 a1 a2) (portagelaw18_SlotCuts.f (k + 1) a0 a1 a2) := by
  intro a0 a1 a2 k
  obtain ⟨ih0, ih1, ih2, ih3, ih4⟩ := portagelaw18_SlotCuts.mono_l k
  unfold portagelaw18_SlotCuts.f
  repeat' first
      | (with_reducible exact ih0 _ _ _ _ _ _ _)
      | (with_reducible exact ih1 _ _ _ _ _ _ _ _)
      | (with_reducible exact ih2 _ _ _ _ _ _ _ _ _ _)
      | (with_reducible exact ih3 _ _ _ _ _ _ _ _)
      | (with_reducible exact ih4 _ _ _ _ _ _ _ _ _)
      | (with_reducible exact portagelaw18_awake.mono _)
      | (with_reducible exact portagelaw18_text.mono _ _ _)
      | (with_reducible exact portageref17_NewDisk.mono _)
      | (with_reducible exact portageref17_Run.mono _ _ _ _ _)
      | (with_reducible exact slot_Find.mono _ _)
      | (with_reducible exact slot_Plan.mono _ _ _)
      | (with_reducible exact LeO.refl _)
      | (with_reducible exact LeO.none _)
      | (with_reducible refine LeO.ite ?_ ?_)
      | (with_reducible refine LeO.bind ?_ (fun _ => ?_))
      | exact ih0 _ _ _ _ _ _ _
      | exact ih1 _ _ _ _ _ _ _ _
      | exact ih2 _ _ _ _ _ _ _ _ _ _
      | exact ih3 _ _ _ _ _ _ _ _
      | exact ih4 _ _ _ _ _ _ _ _ _
      | exact portagelaw18_awake.mono _
      | exact portagelaw18_text.mono _ _ _
      | exact portageref17_NewDisk.mono _
      | exact portageref17_Run.mono _ _ _ _ _
      | exact slot_Find.mono _ _
      | exact slot_Plan.mono _ _ _
      | exact LeO.none _
      | refine LeO.ite ?_ ?_
      | refine LeO.bind ?_ (fun _ => ?_)
set_option maxHeartbeats 8000000 in
set_option maxRecDepth 100000 in
theorem portagelaw18_SlotCuts.calls (k : Nat) (A0 : Option Addr) (c0 : Nat) (l0 : List Int) (a1 : Int) (a2 : Int) (r : Bool) (w : World) (hr0 : Kd.C (Kd.int .i64) w A0 l0.length l0) (hc0 : l0.length ≤ c0) (h : portagelaw18_SlotCuts.f k l0 a1 a2 = some r) :
    Calls Try.prog 8 #[.slice A0 l0.length c0, .int .i64 a1, .int .i64 a2] w fun e w' => e = .returned (.bool r) ∧ Below w.heap.size w w' := by
  have HR0 := Aside0.mk hr0
  have HC0 := Aside0.mk hc0
  clear hr0 hc0
  have HB := Aside0.mk (Below.refl w.heap.size w)
  have H : ((portagelaw18_awake.f k).bind fun t221 => (if t221 = true then ((portageref17_NewDisk.f k).bind fun t222 => (portagelaw18_SlotCuts.l0 k l0 a1 a2 t222 (⟨#[]⟩ : ByteArray) 0 0)) else (none))) = some r := h
  clear h
  replace H := Option.bind_eq_some_iff.mp H
  obtain ⟨t221, A40, H⟩ := H
  replace H : (if t221 = true then ((portageref17_NewDisk.f k).bind fun t222 => (portagelaw18_SlotCuts.l0 k l0 a1 a2 t222 (⟨#[]⟩ : ByteArray) 0 0)) else (none)) = some r := H
  have A4 := Aside0.mk A40
  clear A40
  by_cases c5 : t221 = true
  · subst c5
    have H1 : ((portageref17_NewDisk.f k).bind fun t222 => (portagelaw18_SlotCuts.l0 k l0 a1 a2 t222 (⟨#[]⟩ : ByteArray) 0 0)) = some r := by rw [if_pos rfl] at H; exact H
    clear H
    have H := H1
    clear H1
    replace H := Option.bind_eq_some_iff.mp H
    obtain ⟨t222, A60, H⟩ := H
    replace H : (portagelaw18_SlotCuts.l0 k l0 a1 a2 t222 (⟨#[]⟩ : ByteArray) 0 0) = some r := H
    have A6 := Aside0.mk A60
    clear A60
    have H' := Aside0.mk H
    clear H
    go_enter Try.func8, Try.ntmps8
    go_wp2_with (first | ((with_reducible refine gate_callee (f := 31) rfl ?_); refine goesL_ (some 24) rfl rfl Try.func31 (by kernel_rfl) rfl #[] rfl (by (try simp only [List.map_toArray, List.map_cons, List.map_nil]); first | done | rfl | (simp only [List.length_drop, List.length_take]; rfl)) ?_; (with_reducible refine (portagelaw18_awake.calls k  true _ A4.out).mono ?_); rintro e w7 ⟨rfl, hb⟩; refine ⟨_, rfl, ?_⟩; have n0_ := Aside0.mk (below_step (by repeat (first | (with_reducible first | exact HB.out | apply below_alloc | apply pw_below_drewN | apply below_drew1) | exact HB.out)) hb); clear HB; have HB := n0_; clear n0_; (try clear hb); (try clear hb2); (try clear hk); (try clear hi)) | ((with_reducible refine gate_callee (f := 12) rfl ?_); refine goesL_ (some 26) rfl rfl Try.func12 (by kernel_rfl) rfl #[] rfl (by (try simp only [List.map_toArray, List.map_cons, List.map_nil]); first | done | rfl | (simp only [List.length_drop, List.length_take]; rfl)) ?_; (with_reducible refine (portageref17_NewDisk.calls k  t222 _ A6.out).mono ?_); rintro e w8 ⟨v223, rfl, ho0, hb⟩; refine ⟨_, rfl, ?_⟩; have n0_ := Aside0.mk (Kd.R_lower ho0 (below_size (by repeat (first | (with_reducible first | exact HB.out | apply below_alloc | apply pw_below_drewN | apply below_drew1) | exact HB.out)))); have n1_ := Aside0.mk (below_step (by repeat (first | (with_reducible first | exact HB.out | apply below_alloc | apply pw_below_drewN | apply below_drew1) | exact HB.out)) hb); clear HB; have HO224 := n0_; have HB := n1_; clear n0_ n1_; (try clear hb); (try clear hb2); (try clear hk); (try clear hi); (try clear ho0)))
    go_loopg [7, 8, 9, 10] k (fun kq v7 v8 v9 v10 w' => ∃ (x7_1 : List ByteArray) (x8_1 : ByteArray) (x9_1 : Int) (x10_1 : Int), v8 = .string x8_1 ∧ v9 = .int .i64 x9_1 ∧ v10 = .int .i64 x10_1 ∧ Aside0 (portagelaw18_SlotCuts.l0 kq l0 a1 a2 x7_1 x8_1 x9_1 x10_1 = some r) ∧ Aside0 (kq ≤ k) ∧ Aside0 (Kd.R Kd.string 9 w' w.heap.size (fun _ => True) v7 x7_1) ∧ Aside0 (Below w.heap.size w w'))
    case atStart => exact ⟨(t222), ((⟨#[]⟩ : ByteArray)), (0), (0), (by first | rfl | (simp; done) | (simp [*]; done)), (by first | rfl | (simp; done) | (simp [*]; done)), (by first | rfl | (simp; done) | (simp [*]; done)), H', ⟨Nat.le_refl _⟩, ⟨by (with_reducible repeat (first | apply Kd.R_alloc | apply Kd.R_drewN | apply Kd.R_drew)); exact HO224.out⟩, ⟨by repeat (first | (with_reducible first | exact HB.out | apply below_alloc | apply pw_below_drewN | apply below_drew1) | exact HB.out)⟩⟩
    case round =>
      clear H'
      try clear c1
      try clear p2
      try clear c3
      try clear c5
      try clear c8
      obtain ⟨x7_1, x8_1, x9_1, x10_1, rfl, rfl, rfl, HA, HK1, HO_7, HB⟩ := hrel
      cases gk with
      | zero => exact absurd HA.out (by simp [portagelaw18_SlotCuts.l0])
      | succ k1 =>
        have H := HA.out
        clear HA
        simp only [portagelaw18_SlotCuts.l0] at H
        have HC9 := Aside0.mk H
        clear H
        go_upto_region 6 with (fail)
        go_cut [34] (fun v34 wc => ∃ (kq : Nat) (x34_8 : Bool), v34 = .bool x34_8 ∧ Aside0 (portagelaw18_SlotCuts.j1 kq l0 a1 a2 x7_1 x8_1 x9_1 x10_1 x34_8 = some r) ∧ Aside0 (kq ≤ k1) ∧ Aside0 (Kd.R Kd.string 9 wc w.heap.size (fun _ => True) u7 x7_1) ∧ Aside0 (Below w.heap.size w wc))
        case first =>
          have H := HC9.out
          clear HC9
          by_cases c10 : x10_1 < (l0.length : Int)
          · rw [if_pos c10] at H
            have c10b0 : decide (x10_1 < (l0.length : Int)) = true := decide_eq_true c10
            clear c10
            (first | rw [c10b0] | (simp only [i64_w, i32_w]; rw [c10b0]) | skip)
            have H' := Aside0.mk H
            clear H
            go_wp2
            go_meet
            case rel => exact ⟨_, (decide (x10_1 < 5)), (by first | rfl | (simp; done) | (simp [*]; done)), H', ⟨by have := HK1.out; first | omega | exact Nat.le_refl _⟩, ⟨by (with_reducible repeat (first | apply Kd.R_alloc | apply Kd.R_drewN | apply Kd.R_drew)); exact HO_7.out⟩, ⟨by repeat (first | (with_reducible first | exact HB.out | apply below_alloc | apply pw_below_drewN | apply below_drew1) | exact HB.out)⟩⟩
          · rw [if_neg c10] at H
            have c10b0 : decide (x10_1 < (l0.length : Int)) = false := decide_eq_false c10
            clear c10
            (first | rw [c10b0] | (simp only [i64_w, i32_w]; rw [c10b0]) | skip)
            have H' := Aside0.mk H
            clear H
            go_wp2
            go_meet
            case rel => exact ⟨_, (false), (by first | rfl | (simp; done) | (simp [*]; done)), H', ⟨by have := HK1.out; first | omega | exact Nat.le_refl _⟩, ⟨by (with_reducible repeat (first | apply Kd.R_alloc | apply Kd.R_drewN | apply Kd.R_drew)); exact HO_7.out⟩, ⟨by repeat (first | (with_reducible first | exact HB.out | apply below_alloc | apply pw_below_drewN | apply below_drew1) | exact HB.out)⟩⟩
        case rest =>
          clear HC9
          try clear c1
          try clear p2
          try clear c3
          try clear c5
          try clear c8
          try clear c10
          try clear c10b0
          try clear p2
          obtain ⟨kq, x34_8, rfl, HA, HJ8, HO_7, HB⟩ := hcut
          cases kq with
          | zero => exact absurd HA.out (by simp [portagelaw18_SlotCuts.j1])
          | succ kj8 =>
            have H := HA.out
            clear HA
            simp only [portagelaw18_SlotCuts.j1] at H
            by_cases c11 : x34_8 = true
            · subst c11
              have H1 : (if 0 ≤ x10_1 then (if x10_1 < (l0.length : Int) then ((portagelaw18_text.f kj8 (wrap64 (Int.tmod (IntKind.u64.wrap (rd l0 x10_1)) 4097)) ((x10_1) % 256)).bind fun t226 => ((slot_Plan.f kj8 (wrap64 (x10_1 + 1)) t226).bind fun bt227 => ((portagelaw0_Num.f bt227.2).bind fun t231 => (if t231 = 0 then (portagelaw18_SlotCuts.j2 kj8 l0 a1 a2 x7_1 x8_1 x9_1 x10_1 t226 bt227.1 ((bt227.1.length : Int) != (wrap64 (2 + (wrap64 (Int.tdiv (wrap64 ((wrap64 ((t226.size : Int) + 64)) - 1)) 64)))))) else (portagelaw18_SlotCuts.j2 kj8 l0 a1 a2 x7_1 x8_1 x9_1 x10_1 t226 bt227.1 true))))) else (none)) else (none)) = some r := by rw [if_pos rfl] at H; exact H
              clear H
              have H := H1
              clear H1
              by_cases c12 : 0 ≤ x10_1
              · rw [if_pos c12] at H
                have c12b0 : decide (0 ≤ x10_1) = true := decide_eq_true c12
                clear c12
                by_cases c13 : x10_1 < (l0.length : Int)
                · rw [if_pos c13] at H
                  have c13b0 : decide (x10_1 < (l0.length : Int)) = true := decide_eq_true c13
                  clear c13
                  replace H := Option.bind_eq_some_iff.mp H
                  obtain ⟨t226, A140, H⟩ := H
                  replace H : ((slot_Plan.f kj8 (wrap64 (x10_1 + 1)) t226).bind fun bt227 => ((portagelaw0_Num.f bt227.2).bind fun t231 => (if t231 = 0 then (portagelaw18_SlotCuts.j2 kj8 l0 a1 a2 x7_1 x8_1 x9_1 x10_1 t226 bt227.1 ((bt227.1.length : Int) != (wrap64 (2 + (wrap64 (Int.tdiv (wrap64 ((wrap64 ((t226.size : Int) + 64)) - 1)) 64)))))) else (portagelaw18_SlotCuts.j2 kj8 l0 a1 a2 x7_1 x8_1 x9_1 x10_1 t226 bt227.1 true)))) = some r := H
                  have A14 := Aside0.mk A140
                  clear A140
                  replace H := Option.bind_eq_some_iff.mp H
                  obtain ⟨⟨t227, t228⟩, A150, H⟩ := H
                  replace H : ((portagelaw0_Num.f t228).bind fun t231 => (if t231 = 0 then (portagelaw18_SlotCuts.j2 kj8 l0 a1 a2 x7_1 x8_1 x9_1 x10_1 t226 t227 ((t227.length : Int) != (wrap64 (2 + (wrap64 (Int.tdiv (wrap64 ((wrap64 ((t226.size : Int) + 64)) - 1)) 64)))))) else (portagelaw18_SlotCuts.j2 kj8 l0 a1 a2 x7_1 x8_1 x9_1 x10_1 t226 t227 true))) = some r := H
                  have A15 := Aside0.mk A150
                  clear A150
                  have HC16 := Aside0.mk H
                  clear H
                  have p225 : 0 ≤ (x10_1 : Int) := of_decide_eq_true (by first | (with_reducible assumption) | assumption)
                  have q225 : x10_1 < (l0.length : Int) := of_decide_eq_true (by first | (with_reducible assumption) | assumption)
                  obtain ⟨ad225, e225, hx225_0⟩ := Kd.at_int HR0.out x10_1 p225 q225
                  cases e225
                  replace hx225_0 := (HB.out.cell (World.block_lt_of_cell? w _ hx225_0)).trans hx225_0
                  replace p225 := eq_true p225
                  replace q225 := eq_true q225
                  go_upto_region 10 with (first | ((with_reducible refine gate_callee (f := 32) rfl ?_); refine goesL_ (some 46) rfl rfl Try.func32 (by kernel_rfl) rfl #[.int .i64 (wrap64 (Int.tmod (IntKind.u64.wrap (rd l0 x10_1)) 4097)), .int .u8 ((x10_1) % 256)] rfl (by (try simp only [List.map_toArray, List.map_cons, List.map_nil]); first | done | rfl | (simp only [List.length_drop, List.length_take]; rfl)) ?_; (with_reducible refine (portagelaw18_text.calls kj8 (wrap64 (Int.tmod (IntKind.u64.wrap (rd l0 x10_1)) 4097)) ((x10_1) % 256) t226 _ A14.out).mono ?_); rintro e w17 ⟨rfl, hb⟩; refine ⟨_, rfl, ?_⟩; have n0_ := Aside0.mk (Kd.R_below (by (with_reducible repeat (first | apply Kd.R_alloc | apply Kd.R_drewN | apply Kd.R_drew)); exact HO_7.out) hb); have n1_ := Aside0.mk (below_step (by repeat (first | (with_reducible first | exact HB.out | apply below_alloc | apply pw_below_drewN | apply below_drew1) | exact HB.out)) hb); clear HO_7; clear HB; have HO_7 := n0_; have HB := n1_; clear n0_ n1_; (try clear hb); (try clear hb2); (try clear hk); (try clear hi)) | ((with_reducible refine gate_callee (f := 25) rfl ?_); refine goesL_ (some 51) rfl rfl Try.func25 (by kernel_rfl) rfl #[.int .i64 (wrap64 (x10_1 + 1)), .string t226] rfl (by (try simp only [List.map_toArray, List.map_cons, List.map_nil]); first | done | rfl | (simp only [List.length_drop, List.length_take]; rfl)) ?_; (with_reducible refine (slot_Plan.calls kj8 (wrap64 (x10_1 + 1)) t226 t227 t228 _ A15.out).mono ?_); rintro e w18 ⟨v229, rfl, ho0, hb⟩; refine ⟨_, rfl, ?_⟩; have n0_ := Aside0.mk (Kd.R_below (by (with_reducible repeat (first | apply Kd.R_alloc | apply Kd.R_drewN | apply Kd.R_drew)); exact HO_7.out) hb); have n1_ := Aside0.mk (Kd.R_lower ho0 (below_size (by repeat (first | (with_reducible first | exact HB.out | apply below_alloc | apply pw_below_drewN | apply below_drew1) | exact HB.out)))); have n2_ := Aside0.mk (below_step (by repeat (first | (with_reducible first | exact HB.out | apply below_alloc | apply pw_below_drewN | apply below_drew1) | exact HB.out)) hb); clear HO_7; clear HB; have HO_7 := n0_; have HO230 := n1_; have HB := n2_; clear n0_ n1_ n2_; (try clear hb); (try clear hb2); (try clear hk); (try clear hi); (try clear ho0)))
                  (try simp only [Act.put, List.setIfInBounds_toArray, List.set_cons_zero, List.set_cons_succ])
                  go_cut [67] (fun v67 wc => ∃ (kq : Nat) (x67_15 : Bool), v67 = .bool x67_15 ∧ Aside0 (portagelaw18_SlotCuts.j2 kq l0 a1 a2 x7_1 x8_1 x9_1 x10_1 t226 t227 x67_15 = some r) ∧ Aside0 (kq ≤ kj8) ∧ Aside0 (Kd.R Kd.string 9 wc w.heap.size (fun _ => True) u7 x7_1) ∧ Aside0 (Kd.R k42 42 wc w.heap.size (fun _ => True) v229 t227) ∧ Aside0 (Below w.heap.size w wc))
                  case first =>
                    have H := HC16.out
                    clear HC16
                    replace H := Option.bind_eq_some_iff.mp H
                    obtain ⟨t231, A190, H⟩ := H
                    replace H : (if t231 = 0 then (portagelaw18_SlotCuts.j2 kj8 l0 a1 a2 x7_1 x8_1 x9_1 x10_1 t226 t227 ((t227.length : Int) != (wrap64 (2 + (wrap64 (Int.tdiv (wrap64 ((wrap64 ((t226.size : Int) + 64)) - 1)) 64)))))) else (portagelaw18_SlotCuts.j2 kj8 l0 a1 a2 x7_1 x8_1 x9_1 x10_1 t226 t227 true)) = some r := H
                    have A19 := Aside0.mk A190
                    clear A190
                    by_cases c20 : t231 = 0
                    · rw [if_pos c20] at H
                      have c20b0 : (t231 == 0) = true := beq_iff_eq.mpr c20
                      have c20b1 : (t231 != 0) = false := bne_eq_false_iff_eq.mpr c20
                      clear c20
                      (first | rw [c20b0] | (simp only [i64_w, i32_w]; rw [c20b0]) | skip)
                      have H' := Aside0.mk H
                      clear H
                      go_wp2_with (first | ((with_reducible refine gate_callee (f := 18) rfl ?_); refine goesL_ (some 55) rfl rfl Try.func18 (by kernel_rfl) rfl #[.int .i64 t228] rfl (by (try simp only [List.map_toArray, List.map_cons, List.map_nil]); first | done | rfl | (simp only [List.length_drop, List.length_take]; rfl)) ?_; (with_reducible refine (portagelaw0_Num.calls t228 t231 _ A19.out).mono ?_); rintro e w' ⟨rfl, ⟨nd, rfl⟩⟩; refine ⟨_, rfl, ?_⟩; obtain ⟨Ao21, co21, eo21⟩ := Kd.R_slice HO230.out; subst eo21))
                      go_meet
                      case rel => exact ⟨_, (((t227.length : Int) != (wrap64 (2 + (wrap64 (Int.tdiv (wrap64 ((wrap64 ((t226.size : Int) + 64)) - 1)) 64)))))), (by first | rfl | (simp; done) | (simp [*]; done)), H', ⟨by have := HK1.out; have := HJ8.out; first | omega | exact Nat.le_refl _⟩, ⟨by (with_reducible repeat (first | apply Kd.R_alloc | apply Kd.R_drewN | apply Kd.R_drew)); exact HO_7.out⟩, ⟨by (with_reducible repeat (first | apply Kd.R_alloc | apply Kd.R_drewN | apply Kd.R_drew)); exact HO230.out⟩, ⟨by repeat (first | (with_reducible first | exact HB.out | apply below_alloc | apply pw_below_drewN | apply below_drew1) | exact HB.out)⟩⟩
                    · rw [if_neg c20] at H
                      have c20b0 : (t231 == 0) = false := beq_eq_false_iff_ne.mpr c20
                      have c20b1 : (t231 != 0) = true := bne_iff_ne.mpr c20
                      (first | rw [c20b0] | (simp only [i64_w, i32_w]; rw [c20b0]) | skip)
                      have H' := Aside0.mk H
                      clear H
                      go_wp2_with (first | ((with_reducible refine gate_callee (f := 18) rfl ?_); refine goesL_ (some 55) rfl rfl Try.func18 (by kernel_rfl) rfl #[.int .i64 t228] rfl (by (try simp only [List.map_toArray, List.map_cons, List.map_nil]); first | done | rfl | (simp only [List.length_drop, List.length_take]; rfl)) ?_; (with_reducible refine (portagelaw0_Num.calls t228 t231 _ A19.out).mono ?_); rintro e w' ⟨rfl, ⟨nd, rfl⟩⟩; refine ⟨_, rfl, ?_⟩))
                      go_meet
                      case rel => exact ⟨_, (true), (by first | rfl | (simp; done) | (simp [*]; done)), H', ⟨by have := HK1.out; have := HJ8.out; first | omega | exact Nat.le_refl _⟩, ⟨by (with_reducible repeat (first | apply Kd.R_alloc | apply Kd.R_drewN | apply Kd.R_drew)); exact HO_7.out⟩, ⟨by (with_reducible repeat (first | apply Kd.R_alloc | apply Kd.R_drewN | apply Kd.R_drew)); exact HO230.out⟩, ⟨by repeat (first | (with_reducible first | exact HB.out | apply below_alloc | apply pw_below_drewN | apply below_drew1) | exact HB.out)⟩⟩
                  case rest =>
                    clear HC16
                    try clear c1
                    try clear c2
                    try clear p2
                    try clear q2
                    try clear hx2
                    try clear c3
                    try clear c5
                    try clear p6
                    try clear c8
                    try clear c10
                    try clear c10b0
                    try clear c11
                    try clear c12
                    try clear c12b0
                    try clear c13
                    try clear c13b0
                    try clear c18
                    try clear c20
                    try clear c20b0
                    try clear c20b1
                    try clear hx225_0
                    try clear p2
                    try clear p225
                    try clear q225
                    obtain ⟨kq, x67_15, rfl, HA, HJ15, HO_7, HO_12, HB⟩ := hcut
                    cases kq with
                    | zero => exact absurd HA.out (by simp [portagelaw18_SlotCuts.j2])
                    | succ kj15 =>
                      have H := HA.out
                      clear HA
                      simp only [portagelaw18_SlotCuts.j2] at H
                      by_cases c22 : x67_15 = true
                      · subst c22
                        have H1 : (none) = some r := by rw [if_pos rfl] at H; exact H
                        clear H
                        have H := H1
                        clear H1
                        exact absurd H (by simp)
                      · replace c22 := Bool.eq_false_iff.mpr c22
                        subst c22
                        have H1 : (if x10_1 = ((mn (l0.length : Int) 5) - 1) then (if (IntKind.u64.wrap (wrap64 ((t227.length : Int) + 1))) = 0 then (none) else (if (wrap64 (Int.tmod (IntKind.u64.wrap (a1)) (IntKind.u64.wrap (wrap64 ((t227.length : Int) + 1))))) = (t227.length : Int) then (portagelaw18_SlotCuts.j3 kj15 x7_1 x8_1 x9_1 x10_1 t226 t227 (wrap64 (Int.tmod (IntKind.u64.wrap (a1)) (IntKind.u64.wrap (wrap64 ((t227.length : Int) + 1))))) 0) else (portagelaw18_SlotCuts.j3 kj15 x7_1 x8_1 x9_1 x10_1 t226 t227 (wrap64 (Int.tmod (IntKind.u64.wrap (a1)) (IntKind.u64.wrap (wrap64 ((t227.length : Int) + 1))))) (wrap64 (Int.tmod (IntKind.u64.wrap (a2)) 65))))) else ((portageref17_Run.f kj15 x7_1 t227 (t227.length : Int) 0).bind fun bt242 => (if bt242.2 = 0 then (portagelaw18_SlotCuts.l0 kj15 l0 a1 a2 bt242.1 t226 (wrap64 (x10_1 + 1)) (wrap64 (x10_1 + 1))) else (none)))) = some r := by rw [if_neg (show ¬ (false = true) by decide)] at H; exact H
                        clear H
                        have H := H1
                        clear H1
                        obtain ⟨ji23, hji23⟩ : ∃ j_ : Int, (mn (l0.length : Int) 5) = j_ := ⟨_, rfl⟩
                        replace H : (if x10_1 = ((ji23) - 1) then (if (IntKind.u64.wrap (wrap64 ((t227.length : Int) + 1))) = 0 then (none) else (if (wrap64 (Int.tmod (IntKind.u64.wrap (a1)) (IntKind.u64.wrap (wrap64 ((t227.length : Int) + 1))))) = (t227.length : Int) then (portagelaw18_SlotCuts.j3 kj15 x7_1 x8_1 x9_1 x10_1 t226 t227 (wrap64 (Int.tmod (IntKind.u64.wrap (a1)) (IntKind.u64.wrap (wrap64 ((t227.length : Int) + 1))))) 0) else (portagelaw18_SlotCuts.j3 kj15 x7_1 x8_1 x9_1 x10_1 t226 t227 (wrap64 (Int.tmod (IntKind.u64.wrap (a1)) (IntKind.u64.wrap (wrap64 ((t227.length : Int) + 1))))) (wrap64 (Int.tmod (IntKind.u64.wrap (a2)) 65))))) else ((portageref17_Run.f kj15 x7_1 t227 (t227.length : Int) 0).bind fun bt242 => (if bt242.2 = 0 then (portagelaw18_SlotCuts.l0 kj15 l0 a1 a2 bt242.1 t226 (wrap64 (x10_1 + 1)) (wrap64 (x10_1 + 1))) else (none)))) = some r := by first | (rw [hji23] at H; exact H) | (simp only [hji23] at H ⊢; exact H)
                        have hji23_ : (if 5 < (l0.length : Int) then 5 else (l0.length : Int)) = ji23 := hji23
                        by_cases c24 : x10_1 = ((ji23) - 1)
                        · rw [if_pos c24] at H
                          have c24b0 : (x10_1 == ((ji23) - 1)) = true := beq_iff_eq.mpr c24
                          have c24b1 : (x10_1 != ((ji23) - 1)) = false := bne_eq_false_iff_eq.mpr c24
                          clear c24
                          by_cases c25 : (IntKind.u64.wrap (wrap64 ((t227.length : Int) + 1))) = 0
                          · rw [if_pos c25] at H
                            exact absurd H (by simp)
                          · rw [if_neg c25] at H
                            have c25b0 : ((IntKind.u64.wrap (wrap64 ((t227.length : Int) + 1))) == 0) = false := beq_eq_false_iff_ne.mpr c25
                            have c25b1 : ((IntKind.u64.wrap (wrap64 ((t227.length : Int) + 1))) != 0) = true := bne_iff_ne.mpr c25
                            have HC26 := Aside0.mk H
                            clear H
                            obtain ⟨Ao27, co27, eo27⟩ := Kd.R_slice HO_12.out
                            subst eo27
                            go_upto_if 89 with (fail)
                            go_cut [15] (fun v15 wc => ∃ (kq : Nat) (x15_25 : Int), v15 = .int .i64 x15_25 ∧ Aside0 (portagelaw18_SlotCuts.j3 kq x7_1 x8_1 x9_1 x10_1 t226 t227 (wrap64 (Int.tmod (IntKind.u64.wrap (a1)) (IntKind.u64.wrap (wrap64 ((t227.length : Int) + 1))))) x15_25 = some r) ∧ Aside0 (kq ≤ kj15) ∧ Aside0 (Kd.R Kd.string 9 wc w.heap.size (fun _ => True) u7 x7_1) ∧ Aside0 (Kd.R k42 42 wc w.heap.size (fun _ => True) (.slice Ao27 t227.length co27) t227) ∧ Aside0 (Below w.heap.size w wc))
                            case first =>
                              have H := HC26.out
                              clear HC26
                              by_cases c28 : (wrap64 (Int.tmod (IntKind.u64.wrap (a1)) (IntKind.u64.wrap (wrap64 ((t227.length : Int) + 1))))) = (t227.length : Int)
                              · rw [if_pos c28] at H
                                have c28b0 : ((wrap64 (Int.tmod (IntKind.u64.wrap (a1)) (IntKind.u64.wrap (wrap64 ((t227.length : Int) + 1))))) == (t227.length : Int)) = true := beq_iff_eq.mpr c28
                                have c28b1 : ((wrap64 (Int.tmod (IntKind.u64.wrap (a1)) (IntKind.u64.wrap (wrap64 ((t227.length : Int) + 1))))) != (t227.length : Int)) = false := bne_eq_false_iff_eq.mpr c28
                                clear c28
                                (first | rw [c28b0] | (simp only [i64_w, i32_w]; rw [c28b0]) | skip)
                                have H' := Aside0.mk H
                                clear H
                                go_wp2
                                go_meet
                                case rel => exact ⟨_, (0), (by first | rfl | (simp; done) | (simp [*]; done)), H', ⟨by have := HK1.out; have := HJ8.out; have := HJ15.out; first | omega | exact Nat.le_refl _⟩, ⟨by (with_reducible repeat (first | apply Kd.R_alloc | apply Kd.R_drewN | apply Kd.R_drew)); exact HO_7.out⟩, ⟨by (with_reducible repeat (first | apply Kd.R_alloc | apply Kd.R_drewN | apply Kd.R_drew)); exact HO_12.out⟩, ⟨by repeat (first | (with_reducible first | exact HB.out | apply below_alloc | apply pw_below_drewN | apply below_drew1) | exact HB.out)⟩⟩
                              · rw [if_neg c28] at H
                                have c28b0 : ((wrap64 (Int.tmod (IntKind.u64.wrap (a1)) (IntKind.u64.wrap (wrap64 ((t227.length : Int) + 1))))) == (t227.length : Int)) = false := beq_eq_false_iff_ne.mpr c28
                                have c28b1 : ((wrap64 (Int.tmod (IntKind.u64.wrap (a1)) (IntKind.u64.wrap (wrap64 ((t227.length : Int) + 1))))) != (t227.length : Int)) = true := bne_iff_ne.mpr c28
                                (first | rw [c28b0] | (simp only [i64_w, i32_w]; rw [c28b0]) | skip)
                                have H' := Aside0.mk H
                                clear H
                                go_wp2
                                go_meet
                                case rel => exact ⟨_, (wrap64 (Int.tmod (IntKind.u64.wrap (a2)) 65)), (by first | rfl | (simp; done) | (simp [*]; done)), H', ⟨by have := HK1.out; have := HJ8.out; have := HJ15.out; first | omega | exact Nat.le_refl _⟩, ⟨by (with_reducible repeat (first | apply Kd.R_alloc | apply Kd.R_drewN | apply Kd.R_drew)); exact HO_7.out⟩, ⟨by (with_reducible repeat (first | apply Kd.R_alloc | apply Kd.R_drewN | apply Kd.R_drew)); exact HO_12.out⟩, ⟨by repeat (first | (with_reducible first | exact HB.out | apply below_alloc | apply pw_below_drewN | apply below_drew1) | exact HB.out)⟩⟩
                            case rest =>
                              clear HC26
                              try clear c1
                              try clear c2
                              try clear p2
                              try clear q2
                              try clear hx2
                              try clear c3
                              try clear c5
                              try clear p6
                              try clear c8
                              try clear c10
                              try clear c10b0
                              try clear c11
                              try clear c12
                              try clear c12b0
                              try clear c13
                              try clear c13b0
                              try clear c18
                              try clear c20
                              try clear c20b0
                              try clear c20b1
                              try clear c22
                              try clear p22
                              try clear q22
                              try clear hx22
                              try clear c24
                              try clear c24b0
                              try clear c24b1
                              try clear c25
                              try clear c25b0
                              try clear c25b1
                              try clear c28
                              try clear c28b0
                              try clear c28b1
                              try clear hx225_0
                              try clear p2
                              try clear p225
                              try clear p6
                              try clear q2
                              try clear q225
                              obtain ⟨kq, x15_25, rfl, HA, HJ25, HO_7, HO_12, HB⟩ := hcut
                              cases kq with
                              | zero => exact absurd HA.out (by simp [portagelaw18_SlotCuts.j3])
                              | succ kj25 =>
                                have H := HA.out
                                clear HA
                                simp only [portagelaw18_SlotCuts.j3] at H
                                replace H := Option.bind_eq_some_iff.mp H
                                obtain ⟨⟨t232, t233⟩, A290, H⟩ := H
                                replace H : ((slot_Find.f kj25 t232).bind fun bt236 => (if (wrap64 (Int.tmod (IntKind.u64.wrap (a1)) (IntKind.u64.wrap (wrap64 ((t227.length : Int) + 1))))) = (t227.length : Int) then (portagelaw18_SlotCuts.j4 kj25 x8_1 x9_1 x10_1 t226 t233 bt236.1 bt236.2.1 bt236.2.2 true) else (if (wrap64 (Int.tmod (IntKind.u64.wrap (a1)) (IntKind.u64.wrap (wrap64 ((t227.length : Int) + 1))))) = (wrap64 ((t227.length : Int) - 1)) then (portagelaw18_SlotCuts.j4 kj25 x8_1 x9_1 x10_1 t226 t233 bt236.1 bt236.2.1 bt236.2.2 (x15_25 == 64)) else (portagelaw18_SlotCuts.j4 kj25 x8_1 x9_1 x10_1 t226 t233 bt236.1 bt236.2.1 bt236.2.2 false)))) = some r := H
                                have A29 := Aside0.mk A290
                                clear A290
                                replace H := Option.bind_eq_some_iff.mp H
                                obtain ⟨⟨t236, t237, t238⟩, A300, H⟩ := H
                                replace H : (if (wrap64 (Int.tmod (IntKind.u64.wrap (a1)) (IntKind.u64.wrap (wrap64 ((t227.length : Int) + 1))))) = (t227.length : Int) then (portagelaw18_SlotCuts.j4 kj25 x8_1 x9_1 x10_1 t226 t233 t236 t237 t238 true) else (if (wrap64 (Int.tmod (IntKind.u64.wrap (a1)) (IntKind.u64.wrap (wrap64 ((t227.length : Int) + 1))))) = (wrap64 ((t227.length : Int) - 1)) then (portagelaw18_SlotCuts.j4 kj25 x8_1 x9_1 x10_1 t226 t233 t236 t237 t238 (x15_25 == 64)) else (portagelaw18_SlotCuts.j4 kj25 x8_1 x9_1 x10_1 t226 t233 t236 t237 t238 false))) = some r := H
                                have A30 := Aside0.mk A300
                                clear A300
                                have HC31 := Aside0.mk H
                                clear H
                                obtain ⟨Ao32, co32, eo32⟩ := Kd.R_slice HO_7.out
                                subst eo32
                                go_upto_region 19 with (first | ((with_reducible refine gate_callee (f := 16) rfl ?_); refine goesL_ (some 95) rfl rfl Try.func16 (by kernel_rfl) rfl #[.slice Ao32 x7_1.length co32, .slice Ao27 t227.length co27, .int .i64 (wrap64 (Int.tmod (IntKind.u64.wrap (a1)) (IntKind.u64.wrap (wrap64 ((t227.length : Int) + 1))))), .int .i64 x15_25] rfl (by (try simp only [List.map_toArray, List.map_cons, List.map_nil]); first | done | rfl | (simp only [List.length_drop, List.length_take]; rfl)) ?_; (with_reducible refine (portageref17_Run.calls kj25 _ _ x7_1 _ _ t227 (wrap64 (Int.tmod (IntKind.u64.wrap (a1)) (IntKind.u64.wrap (wrap64 ((t227.length : Int) + 1))))) x15_25 t232 t233 _ ?side1 ?side2 ?side3 ?side4 A29.out).mono ?_); (case side1 => repeat (first | exact (Kd.R_reads' HO_7.out).2.2 | (with_reducible refine Kd.C_alloc ?_ _) | (with_reducible refine Kd.C_drewN ?_ _) | (with_reducible refine Kd.C_drew ?_))); (case side2 => exact (Kd.R_reads' HO_7.out).2.1); (case side3 => repeat (first | exact (Kd.R_reads' HO_12.out).2.2 | (with_reducible refine Kd.C_alloc ?_ _) | (with_reducible refine Kd.C_drewN ?_ _) | (with_reducible refine Kd.C_drew ?_))); (case side4 => exact (Kd.R_reads' HO_12.out).2.1); rintro e w33 ⟨v234, rfl, ho0, hb⟩; refine ⟨_, rfl, ?_⟩; have n0_ := Aside0.mk (Kd.R_elder' (by (with_reducible repeat (first | apply Kd.R_alloc | apply Kd.R_drewN | apply Kd.R_drew)); exact HO_7.out) (Kd.R_base ho0) hb); have n1_ := Aside0.mk (Kd.R_below (by (with_reducible repeat (first | apply Kd.R_alloc | apply Kd.R_drewN | apply Kd.R_drew)); exact HO_12.out) hb); have n2_ := Aside0.mk (Kd.R_lower (Kd.R_new' ho0 (Kd.R_lt (by (with_reducible repeat (first | apply Kd.R_alloc | apply Kd.R_drewN | apply Kd.R_drew)); exact HO_7.out))) (below_size (by repeat (first | (with_reducible first | exact HB.out | apply below_alloc | apply pw_below_drewN | apply below_drew1) | exact HB.out)))); have n3_ := Aside0.mk (below_step (by repeat (first | (with_reducible first | exact HB.out | apply below_alloc | apply pw_below_drewN | apply below_drew1) | exact HB.out)) hb); clear HO_7; clear HO_12; clear HB; have HO_7 := n0_; have HO_12 := n1_; have HO235 := n2_; have HB := n3_; clear n0_ n1_ n2_ n3_; (try clear hb); (try clear hb2); (try clear hk); (try clear hi); (try clear ho0); obtain ⟨Ao34, co34, eo34⟩ := Kd.R_slice HO235.out; subst eo34) | ((with_reducible refine gate_callee (f := 27) rfl ?_); refine goesL_ (some 100) rfl rfl Try.func27 (by kernel_rfl) rfl #[.slice Ao34 t232.length co34] rfl (by (try simp only [List.map_toArray, List.map_cons, List.map_nil]); first | done | rfl | (simp only [List.length_drop, List.length_take]; rfl)) ?_; (with_reducible refine (slot_Find.calls kj25 _ _ t232 t236 t237 t238 _ ?side1 ?side2 A30.out).mono ?_); (case side1 => repeat (first | exact (Kd.R_reads' HO235.out).2.2 | (with_reducible refine Kd.C_alloc ?_ _) | (with_reducible refine Kd.C_drewN ?_ _) | (with_reducible refine Kd.C_drew ?_))); (case side2 => exact (Kd.R_reads' HO235.out).2.1); rintro e w35 ⟨rfl, hb⟩; refine ⟨_, rfl, ?_⟩; have n0_ := Aside0.mk (Kd.R_below (by (with_reducible repeat (first | apply Kd.R_alloc | apply Kd.R_drewN | apply Kd.R_drew)); exact HO_7.out) hb); have n1_ := Aside0.mk (Kd.R_below (by (with_reducible repeat (first | apply Kd.R_alloc | apply Kd.R_drewN | apply Kd.R_drew)); exact HO_12.out) hb); have n2_ := Aside0.mk (Kd.R_below (by (with_reducible repeat (first | apply Kd.R_alloc | apply Kd.R_drewN | apply Kd.R_drew)); exact HO235.out) hb); have n3_ := Aside0.mk (below_step (by repeat (first | (with_reducible first | exact HB.out | apply below_alloc | apply pw_below_drewN | apply below_drew1) | exact HB.out)) hb); clear HO_7; clear HO_12; clear HO235; clear HB; have HO_7 := n0_; have HO_12 := n1_; have HO235 := n2_; have HB := n3_; clear n0_ n1_ n2_ n3_; (try clear hb); (try clear hb2); (try clear hk); (try clear hi)))
                                (try simp only [Act.put, List.setIfInBounds_toArray, List.set_cons_zero, List.set_cons_succ])
                                go_cut [21] (fun v21 wc => ∃ (kq : Nat) (x21_30 : Bool), v21 = .bool x21_30 ∧ Aside0 (portagelaw18_SlotCuts.j4 kq x8_1 x9_1 x10_1 t226 t233 t236 t237 t238 x21_30 = some r) ∧ Aside0 (kq ≤ kj25) ∧ Aside0 (Below w.heap.size w wc))
                                case first =>
                                  have H := HC31.out
                                  clear HC31
                                  by_cases c36 : (wrap64 (Int.tmod (IntKind.u64.wrap (a1)) (IntKind.u64.wrap (wrap64 ((t227.length : Int) + 1))))) = (t227.length : Int)
                                  · rw [if_pos c36] at H
                                    have c36b0 : ((wrap64 (Int.tmod (IntKind.u64.wrap (a1)) (IntKind.u64.wrap (wrap64 ((t227.length : Int) + 1))))) == (t227.length : Int)) = true := beq_iff_eq.mpr c36
                                    have c36b1 : ((wrap64 (Int.tmod (IntKind.u64.wrap (a1)) (IntKind.u64.wrap (wrap64 ((t227.length : Int) + 1))))) != (t227.length : Int)) = false := bne_eq_false_iff_eq.mpr c36
                                    clear c36
                                    (first | rw [c36b0] | (simp only [i64_w, i32_w]; rw [c36b0]) | skip)
                                    have H' := Aside0.mk H
                                    clear H
                                    go_wp2
                                    go_meet
                                    case rel => exact ⟨_, (true), (by first | rfl | (simp; done) | (simp [*]; done)), H', ⟨by have := HK1.out; have := HJ8.out; have := HJ15.out; have := HJ25.out; first | omega | exact Nat.le_refl _⟩, ⟨by repeat (first | (with_reducible first | exact HB.out | apply below_alloc | apply pw_below_drewN | apply below_drew1) | exact HB.out)⟩⟩
                                  · rw [if_neg c36] at H
                                    have c36b0 : ((wrap64 (Int.tmod (IntKind.u64.wrap (a1)) (IntKind.u64.wrap (wrap64 ((t227.length : Int) + 1))))) == (t227.length : Int)) = false := beq_eq_false_iff_ne.mpr c36
                                    have c36b1 : ((wrap64 (Int.tmod (IntKind.u64.wrap (a1)) (IntKind.u64.wrap (wrap64 ((t227.length : Int) + 1))))) != (t227.length : Int)) = true := bne_iff_ne.mpr c36
                                    (first | rw [c36b0] | (simp only [i64_w, i32_w]; rw [c36b0]) | skip)
                                    by_cases c37 : (wrap64 (Int.tmod (IntKind.u64.wrap (a1)) (IntKind.u64.wrap (wrap64 ((t227.length : Int) + 1))))) = (wrap64 ((t227.length : Int) - 1))
                                    · rw [if_pos c37] at H
                                      have c37b0 : ((wrap64 (Int.tmod (IntKind.u64.wrap (a1)) (IntKind.u64.wrap (wrap64 ((t227.length : Int) + 1))))) == (wrap64 ((t227.length : Int) - 1))) = true := beq_iff_eq.mpr c37
                                      have c37b1 : ((wrap64 (Int.tmod (IntKind.u64.wrap (a1)) (IntKind.u64.wrap (wrap64 ((t227.length : Int) + 1))))) != (wrap64 ((t227.length : Int) - 1))) = false := bne_eq_false_iff_eq.mpr c37
                                      clear c37
                                      have H' := Aside0.mk H
                                      clear H
                                      go_wp2
                                      go_meet
                                      case rel => exact ⟨_, ((x15_25 == 64)), (by first | rfl | (simp; done) | (simp [*]; done)), H', ⟨by have := HK1.out; have := HJ8.out; have := HJ15.out; have := HJ25.out; first | omega | exact Nat.le_refl _⟩, ⟨by repeat (first | (with_reducible first | exact HB.out | apply below_alloc | apply pw_below_drewN | apply below_drew1) | exact HB.out)⟩⟩
                                    · rw [if_neg c37] at H
                                      have c37b0 : ((wrap64 (Int.tmod (IntKind.u64.wrap (a1)) (IntKind.u64.wrap (wrap64 ((t227.length : Int) + 1))))) == (wrap64 ((t227.length : Int) - 1))) = false := beq_eq_false_iff_ne.mpr c37
                                      have c37b1 : ((wrap64 (Int.tmod (IntKind.u64.wrap (a1)) (IntKind.u64.wrap (wrap64 ((t227.length : Int) + 1))))) != (wrap64 ((t227.length : Int) - 1))) = true := bne_iff_ne.mpr c37
                                      have H' := Aside0.mk H
                                      clear H
                                      go_wp2
                                      go_meet
                                      case rel => exact ⟨_, (false), (by first | rfl | (simp; done) | (simp [*]; done)), H', ⟨by have := HK1.out; have := HJ8.out; have := HJ15.out; have := HJ25.out; first | omega | exact Nat.le_refl _⟩, ⟨by repeat (first | (with_reducible first | exact HB.out | apply below_alloc | apply pw_below_drewN | apply below_drew1) | exact HB.out)⟩⟩
                                case rest =>
                                  clear HC31
                                  try clear c1
                                  try clear c2
                                  try clear p2
                                  try clear q2
                                  try clear hx2
                                  try clear c3
                                  try clear c5
                                  try clear p6
                                  try clear c8
                                  try clear c10
                                  try clear c10b0
                                  try clear c11
                                  try clear c12
                                  try clear c12b0
                                  try clear c13
                                  try clear c13b0
                                  try clear c16
                                  try clear c18
                                  try clear c20
                                  try clear c20b0
                                  try clear c20b1
                                  try clear c22
                                  try clear p22
                                  try clear q22
                                  try clear hx22
                                  try clear c24
                                  try clear c24b0
                                  try clear c24b1
                                  try clear c25
                                  try clear c25b0
                                  try clear c25b1
                                  try clear c27
                                  try clear c28
                                  try clear c28b0
                                  try clear c28b1
                                  try clear c31
                                  try clear c32
                                  try clear c36
                                  try clear c36b0
                                  try clear c36b1
                                  try clear c37
                                  try clear c37b0
                                  try clear c37b1
                                  try clear hx225_0
                                  try clear p2
                                  try clear p22
                                  try clear p225
                                  try clear p6
                                  try clear q2
                                  try clear q22
                                  try clear q225
                                  obtain ⟨kq, x21_30, rfl, HA, HJ30, HB⟩ := hcut
                                  cases kq with
                                  | zero => exact absurd HA.out (by simp [portagelaw18_SlotCuts.j4])
                                  | succ kj30 =>
                                    have H := HA.out
                                    clear HA
                                    simp only [portagelaw18_SlotCuts.j4] at H
                                    by_cases c38 : t233 = 0
                                    · rw [if_pos c38] at H
                                      have c38b0 : (t233 == 0) = true := beq_iff_eq.mpr c38
                                      have c38b1 : (t233 != 0) = false := bne_eq_false_iff_eq.mpr c38
                                      clear c38
                                      by_cases c39 : x21_30 = true
                                      · subst c39
                                        have H1 : ((portagelaw0_Num.f t238).bind fun t239 => (if t239 = 0 then (if t236 = (wrap64 (x10_1 + 1)) then (some (t237.toList == t226.toList)) else (none)) else (none))) = some r := by rw [if_pos rfl] at H; exact H
                                        clear H
                                        have H := H1
                                        clear H1
                                        replace H := Option.bind_eq_some_iff.mp H
                                        obtain ⟨t239, A400, H⟩ := H
                                        replace H : (if t239 = 0 then (if t236 = (wrap64 (x10_1 + 1)) then (some (t237.toList == t226.toList)) else (none)) else (none)) = some r := H
                                        have A40 := Aside0.mk A400
                                        clear A400
                                        by_cases c41 : t239 = 0
                                        · rw [if_pos c41] at H
                                          have c41b0 : (t239 == 0) = true := beq_iff_eq.mpr c41
                                          have c41b1 : (t239 != 0) = false := bne_eq_false_iff_eq.mpr c41
                                          clear c41
                                          by_cases c42 : t236 = (wrap64 (x10_1 + 1))
                                          · rw [if_pos c42] at H
                                            have c42b0 : (t236 == (wrap64 (x10_1 + 1))) = true := beq_iff_eq.mpr c42
                                            have c42b1 : (t236 != (wrap64 (x10_1 + 1))) = false := bne_eq_false_iff_eq.mpr c42
                                            clear c42
                                            obtain rfl := Option.some.inj H
                                            go_wp2_with (first | ((with_reducible refine gate_callee (f := 18) rfl ?_); refine goesL_ (some 123) rfl rfl Try.func18 (by kernel_rfl) rfl #[.int .i64 t238] rfl (by (try simp only [List.map_toArray, List.map_cons, List.map_nil]); first | done | rfl | (simp only [List.length_drop, List.length_take]; rfl)) ?_; (with_reducible refine (portagelaw0_Num.calls t238 t239 _ A40.out).mono ?_); rintro e w' ⟨rfl, ⟨nd, rfl⟩⟩; refine ⟨_, rfl, ?_⟩))
                                            go_ret
                                            exact ⟨by first | rfl | (simp [errW_none, errW_some] <;> rfl) | (simp only [← hji23]; first | rfl | (simp [errW_none, errW_some] <;> rfl)) | (simp [*, errW_none, errW_some] <;> rfl), by repeat (first | (with_reducible first | exact HB.out | apply below_alloc | apply pw_below_drewN | apply below_drew1) | exact HB.out)⟩
                                          · rw [if_neg c42] at H
                                            exact absurd H (by simp)
                                        · rw [if_neg c41] at H
                                          exact absurd H (by simp)
                                      · replace c39 := Bool.eq_false_iff.mpr c39
                                        subst c39
                                        have H1 : (if x9_1 = 0 then ((portagelaw0_Num.f t238).bind fun t240 => (some (t240 == 1801))) else ((portagelaw0_Num.f t238).bind fun t241 => (if t241 = 0 then (if t236 = x9_1 then (some (t237.toList == x8_1.toList)) else (none)) else (none)))) = some r := by rw [if_neg (show ¬ (false = true) by decide)] at H; exact H
                                        clear H
                                        have H := H1
                                        clear H1
                                        by_cases c43 : x9_1 = 0
                                        · rw [if_pos c43] at H
                                          have c43b0 : (x9_1 == 0) = true := beq_iff_eq.mpr c43
                                          have c43b1 : (x9_1 != 0) = false := bne_eq_false_iff_eq.mpr c43
                                          clear c43
                                          replace H := Option.bind_eq_some_iff.mp H
                                          obtain ⟨t240, A440, H⟩ := H
                                          replace H : (some (t240 == 1801)) = some r := H
                                          have A44 := Aside0.mk A440
                                          clear A440
                                          obtain rfl := Option.some.inj H
                                          go_wp2_with (first | ((with_reducible refine gate_callee (f := 18) rfl ?_); refine goesL_ (some 139) rfl rfl Try.func18 (by kernel_rfl) rfl #[.int .i64 t238] rfl (by (try simp only [List.map_toArray, List.map_cons, List.map_nil]); first | done | rfl | (simp only [List.length_drop, List.length_take]; rfl)) ?_; (with_reducible refine (portagelaw0_Num.calls t238 t240 _ A44.out).mono ?_); rintro e w' ⟨rfl, ⟨nd, rfl⟩⟩; refine ⟨_, rfl, ?_⟩))
                                          go_ret
                                          exact ⟨by first | rfl | (simp [errW_none, errW_some] <;> rfl) | (simp only [← hji23]; first | rfl | (simp [errW_none, errW_some] <;> rfl)) | (simp [*, errW_none, errW_some] <;> rfl), by repeat (first | (with_reducible first | exact HB.out | apply below_alloc | apply pw_below_drewN | apply below_drew1) | exact HB.out)⟩
                                        · rw [if_neg c43] at H
                                          have c43b0 : (x9_1 == 0) = false := beq_eq_false_iff_ne.mpr c43
                                          have c43b1 : (x9_1 != 0) = true := bne_iff_ne.mpr c43
                                          replace H := Option.bind_eq_some_iff.mp H
                                          obtain ⟨t241, A450, H⟩ := H
                                          replace H : (if t241 = 0 then (if t236 = x9_1 then (some (t237.toList == x8_1.toList)) else (none)) else (none)) = some r := H
                                          have A45 := Aside0.mk A450
                                          clear A450
                                          by_cases c46 : t241 = 0
                                          · rw [if_pos c46] at H
                                            have c46b0 : (t241 == 0) = true := beq_iff_eq.mpr c46
                                            have c46b1 : (t241 != 0) = false := bne_eq_false_iff_eq.mpr c46
                                            clear c46
                                            by_cases c47 : t236 = x9_1
                                            · rw [if_pos c47] at H
                                              have c47b0 : (t236 == x9_1) = true := beq_iff_eq.mpr c47
                                              have c47b1 : (t236 != x9_1) = false := bne_eq_false_iff_eq.mpr c47
                                              clear c47
                                              obtain rfl := Option.some.inj H
                                              go_wp2_with (first | ((with_reducible refine gate_callee (f := 18) rfl ?_); refine goesL_ (some 142) rfl rfl Try.func18 (by kernel_rfl) rfl #[.int .i64 t238] rfl (by (try simp only [List.map_toArray, List.map_cons, List.map_nil]); first | done | rfl | (simp only [List.length_drop, List.length_take]; rfl)) ?_; (with_reducible refine (portagelaw0_Num.calls t238 t241 _ A45.out).mono ?_); rintro e w' ⟨rfl, ⟨nd, rfl⟩⟩; refine ⟨_, rfl, ?_⟩))
                                              go_ret
                                              exact ⟨by first | rfl | (simp [errW_none, errW_some] <;> rfl) | (simp only [← hji23]; first | rfl | (simp [errW_none, errW_some] <;> rfl)) | (simp [*, errW_none, errW_some] <;> rfl), by repeat (first | (with_reducible first | exact HB.out | apply below_alloc | apply pw_below_drewN | apply below_drew1) | exact HB.out)⟩
                                            · rw [if_neg c47] at H
                                              exact absurd H (by simp)
                                          · rw [if_neg c46] at H
                                            exact absurd H (by simp)
                                    · rw [if_neg c38] at H
                                      exact absurd H (by simp)
                        · rw [if_neg c24] at H
                          have c24b0 : (x10_1 == ((ji23) - 1)) = false := beq_eq_false_iff_ne.mpr c24
                          have c24b1 : (x10_1 != ((ji23) - 1)) = true := bne_iff_ne.mpr c24
                          replace H := Option.bind_eq_some_iff.mp H
                          obtain ⟨⟨t242, t243⟩, A480, H⟩ := H
                          replace H : (if t243 = 0 then (portagelaw18_SlotCuts.l0 kj15 l0 a1 a2 t242 t226 (wrap64 (x10_1 + 1)) (wrap64 (x10_1 + 1))) else (none)) = some r := H
                          have A48 := Aside0.mk A480
                          clear A480
                          by_cases c49 : t243 = 0
                          · rw [if_pos c49] at H
                            have c49b0 : (t243 == 0) = true := beq_iff_eq.mpr c49
                            have c49b1 : (t243 != 0) = false := bne_eq_false_iff_eq.mpr c49
                            clear c49
                            have H' := Aside0.mk H
                            clear H
                            obtain ⟨Ao50, co50, eo50⟩ := Kd.R_slice HO_12.out
                            subst eo50
                            obtain ⟨Ao51, co51, eo51⟩ := Kd.R_slice HO_7.out
                            subst eo51
                            go_wp2_with (first | ((with_reducible refine gate_callee (f := 16) rfl ?_); refine goesL_ (some 159) rfl rfl Try.func16 (by kernel_rfl) rfl #[.slice Ao51 x7_1.length co51, .slice Ao50 t227.length co50, .int .i64 (t227.length : Int), .int .i64 0] rfl (by (try simp only [List.map_toArray, List.map_cons, List.map_nil]); first | done | rfl | (simp only [List.length_drop, List.length_take]; rfl)) ?_; (with_reducible refine (portageref17_Run.calls kj15 _ _ x7_1 _ _ t227 (t227.length : Int) 0 t242 t243 _ ?side1 ?side2 ?side3 ?side4 A48.out).mono ?_); (case side1 => repeat (first | exact (Kd.R_reads' HO_7.out).2.2 | (with_reducible refine Kd.C_alloc ?_ _) | (with_reducible refine Kd.C_drewN ?_ _) | (with_reducible refine Kd.C_drew ?_))); (case side2 => exact (Kd.R_reads' HO_7.out).2.1); (case side3 => repeat (first | exact (Kd.R_reads' HO_12.out).2.2 | (with_reducible refine Kd.C_alloc ?_ _) | (with_reducible refine Kd.C_drewN ?_ _) | (with_reducible refine Kd.C_drew ?_))); (case side4 => exact (Kd.R_reads' HO_12.out).2.1); rintro e w52 ⟨v244, rfl, ho0, hb⟩; refine ⟨_, rfl, ?_⟩; have n0_ := Aside0.mk (Kd.R_elder' (by (with_reducible repeat (first | apply Kd.R_alloc | apply Kd.R_drewN | apply Kd.R_drew)); exact HO_7.out) (Kd.R_base ho0) hb); have n1_ := Aside0.mk (Kd.R_below (by (with_reducible repeat (first | apply Kd.R_alloc | apply Kd.R_drewN | apply Kd.R_drew)); exact HO_12.out) hb); have n2_ := Aside0.mk (Kd.R_lower (Kd.R_new' ho0 (Kd.R_lt (by (with_reducible repeat (first | apply Kd.R_alloc | apply Kd.R_drewN | apply Kd.R_drew)); exact HO_7.out))) (below_size (by repeat (first | (with_reducible first | exact HB.out | apply below_alloc | apply pw_below_drewN | apply below_drew1) | exact HB.out)))); have n3_ := Aside0.mk (below_step (by repeat (first | (with_reducible first | exact HB.out | apply below_alloc | apply pw_below_drewN | apply below_drew1) | exact HB.out)) hb); clear HO_7; clear HO_12; clear HB; have HO_7 := n0_; have HO_12 := n1_; have HO245 := n2_; have HB := n3_; clear n0_ n1_ n2_ n3_; (try clear hb); (try clear hb2); (try clear hk); (try clear hi); (try clear ho0)))
                            go_roundg kj15
                            case measure => have := HK1.out; have := HJ8.out; have := HJ15.out; omega
                            case rel => exact ⟨(t242), (t226), (wrap64 (x10_1 + 1)), (wrap64 (x10_1 + 1)), (by first | rfl | (simp; done) | (simp [*]; done)), (by first | rfl | (simp; done) | (simp [*]; done)), (by first | rfl | (simp; done) | (simp [*]; done)), H', ⟨by have := HK1.out; have := HJ8.out; have := HJ15.out; omega⟩, ⟨by (with_reducible repeat (first | apply Kd.R_alloc | apply Kd.R_drewN | apply Kd.R_drew)); exact Kd.R_mono HO245.out (fun _ hk => trivial)⟩, ⟨by repeat (first | (with_reducible first | exact HB.out | apply below_alloc | apply pw_below_drewN | apply below_drew1) | exact HB.out)⟩⟩
                          · rw [if_neg c49] at H
                            exact absurd H (by simp)
                · rw [if_neg c13] at H
                  exact absurd H (by simp)
              · rw [if_neg c12] at H
                exact absurd H (by simp)
            · replace c11 := Bool.eq_false_iff.mpr c11
              subst c11
              have H1 : (some true) = some r := by rw [if_neg (show ¬ (false = true) by decide)] at H; exact H
              clear H
              have H := H1
              clear H1
              obtain rfl := Option.some.inj H
              go_wp2
              go_ret
              exact ⟨by first | rfl | (simp [errW_none, errW_some] <;> rfl) | (simp [*, errW_none, errW_some] <;> rfl), by repeat (first | (with_reducible first | exact HB.out | apply below_alloc | apply pw_below_drewN | apply below_drew1) | exact HB.out)⟩
  · replace c5 := Bool.eq_false_iff.mpr c5
    subst c5
    have H1 : (none) = some r := by rw [if_neg (show ¬ (false = true) by decide)] at H; exact H
    clear H
    have H := H1
    clear H1
    exact absurd H (by simp)

/-- THE ONE PURE STATEMENT of portagelaw18_SlotCuts: yours. -/
def portagelaw18_SlotCuts.Pure : Prop := ∀ (l0 : List Int) (a1 : Int) (a2 : Int), l0.length ≤ maxLen → l0.length * 8 ≤ 140737488351232 → (∀ x ∈ l0, (Lit.int .i64 x).wf = true) → (Lit.int .i64 a1).wf = true → (Lit.int .i64 a2).wf = true → ∃ k, portagelaw18_SlotCuts.f k l0 a1 a2 = some true
theorem portagelaw18_SlotCuts.walk (P : portagelaw18_SlotCuts.Pure) (a0 : Option Addr) (len0 cap0 : Nat) (z0 : List Int) (a1 : Int) (a2 : Int) (w : World) (w0 : (a0 = none ∧ len0 = 0 ∧ cap0 = 0 ∧ z0 = []) ∨ ∃ x, a0 = some x ∧ len0 ≤ cap0 ∧ cap0 ≤ maxLen ∧ z0.length = cap0 ∧ (∀ i, i < z0.length → w.cell? (x.add i) = some (.int .i64 (z0.getD i 0))) ∧ ∀ n ∈ z0, (Lit.int .i64 n).wf = true) (y0 : len0 * 8 ≤ 140737488351232) (w1 : (Lit.int .i64 a1).wf = true) (w2 : (Lit.int .i64 a2).wf = true) :
    Calls Try.prog 8 #[.slice a0 len0 cap0, .int .i64 a1, .int .i64 a2] w fun e w' => e = .returned (.bool true) ∧ Below w.heap.size w w' := by
  obtain ⟨l0, rfl, hr0, hm0, hw0, hc0⟩ := ReadsInt.ofRowC w0
  obtain ⟨k, h⟩ := P l0 a1 a2 hm0 y0 hw0 w1 w2
  refine (portagelaw18_SlotCuts.calls k _ _ l0 a1 a2 true w (Kd.C_of_reads (d := (0 : Int)) (h1 := fun _ => rfl) hr0) hc0 h).mono ?_
  rintro e w' ⟨rfl, hd⟩
  exact ⟨rfl, hd⟩

end Go.Proofs.Ytdccnjinehcenaa.L
