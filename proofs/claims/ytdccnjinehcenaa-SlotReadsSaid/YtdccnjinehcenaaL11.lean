-- Written by a program of this session out of the translation (a changed copy of the kit's printer).
import Derived.Test.YtdccnjinehcenaaL0
import Derived.Test.YtdccnjinehcenaaL1
import Derived.Test.YtdccnjinehcenaaL2
import Derived.Test.YtdccnjinehcenaaL3
import Derived.Test.YtdccnjinehcenaaL4
import Derived.Test.YtdccnjinehcenaaL8
namespace Go.Proofs.Ytdccnjinehcenaa.L
open Go.RowKit Go.Proofs.YtdccnjinehcenaaW.PrintWords Go.Proofs.YtdccnjinehcenaaW.PrintLast Go.Proofs.YtdccnjinehcenaaW.PrintMore
attribute [local go_sem] max2_int min2_int max_two min_two max_three min_three max_four min_four   -- for this text's walks alone
set_option linter.unusedVariables false
set_option linter.unusedSimpArgs false

/-! ### portagelaw18_SlotReads: function 11 -/
def portagelaw18_SlotReads.j0 : Nat → ByteArray → ByteArray → Int → List (S42) → List (S42) → Bool → Option (Bool)
  | 0, _, _, _, _, _, _ => none
  | k + 1, x0, x1, x7, x8, x10, x51 => if x51 = true then (some (decide ((wrap64 ((x0.size : Int) + (x1.size : Int))) > 4096))) else ((portageref17_NewDisk.f k).bind fun t287 => ((portageref17_Run.f k t287 x8 (x8.length : Int) 0).bind fun bt290 => ((portageref17_Run.f k bt290.1 x10 (x10.length : Int) 0).bind fun bt294 => ((slot_Find.f k bt290.1).bind fun bt298 => ((slot_Find.f k bt294.1).bind fun bt301 => (if bt290.2 = 0 then (if bt294.2 = 0 then ((portagelaw0_Num.f bt298.2.2).bind fun t304 => (if t304 = 0 then ((portagelaw0_Num.f bt301.2.2).bind fun t305 => (if t305 = 0 then (if bt298.1 = x7 then (if x0.size + x1.size ≤ 9223372036854775807 then (if bt298.2.1.toList = (x0 ++ x1).toList then (if bt301.1 = (wrap64 (x7 + 2)) then (some (bt301.2.1.toList == x1.toList)) else (none)) else (none)) else (none)) else (none)) else (none))) else (none))) else (none)) else (none)))))))
def portagelaw18_SlotReads.f (k : Nat) (a0 : ByteArray) (a1 : ByteArray) (a2 : Int) : Option (Bool) := (portagelaw18_awake.f k).bind fun t276 => (if t276 = true then (if a0.size + a1.size ≤ 9223372036854775807 then ((slot_Plan.f k (wrap64 (1 + (wrap64 (Int.tmod (IntKind.u64.wrap (a2)) 1048574)))) (a0 ++ a1)).bind fun bt277 => ((slot_Plan.f k (wrap64 ((wrap64 (1 + (wrap64 (Int.tmod (IntKind.u64.wrap (a2)) 1048574)))) + 2)) a1).bind fun bt281 => ((portagelaw0_Num.f bt277.2).bind fun t285 => (if t285 = 0 then ((portagelaw0_Num.f bt281.2).bind fun t286 => (portagelaw18_SlotReads.j0 k a0 a1 (wrap64 (1 + (wrap64 (Int.tmod (IntKind.u64.wrap (a2)) 1048574)))) bt277.1 bt281.1 (t286 != 0))) else (portagelaw18_SlotReads.j0 k a0 a1 (wrap64 (1 + (wrap64 (Int.tmod (IntKind.u64.wrap (a2)) 1048574)))) bt277.1 bt281.1 true))))) else (none)) else (none))
theorem portagelaw18_SlotReads.mono_l : ∀ k, (∀ y0 y1 y2 y3 y4 y5, LeO (portagelaw18_SlotReads.j0 k y0 y1 y2 y3 y4 y5) (portagelaw18_SlotReads.j0 (k + 1) y0 y1 y2 y3 y4 y5))
  | 0 => fun _ _ _ _ _ _ r h => by simp [portagelaw18_SlotReads.j0] at h
  | k + 1 => by
    have ih0 := portagelaw18_SlotReads.mono_l k
    · intro y0 y1 y2 y3 y4 y5
      unfold portagelaw18_SlotReads.j0
      repeat' first
      | (with_reducible exact ih0 _ _ _ _ _ _)
      | (with_reducible exact portagelaw18_awake.mono _)
      | (with_reducible exact portageref17_NewDisk.mono _)
      | (with_reducible exact portageref17_Run.mono _ _ _ _ _)
      | (with_reducible exact slot_Find.mono _ _)
      | (with_reducible exact slot_Plan.mono _ _ _)
      | (with_reducible exact LeO.refl _)
      | (with_reducible exact LeO.none _)
      | (with_reducible refine LeO.ite ?_ ?_)
      | (with_reducible refine LeO.bind ?_ (fun _ => ?_))
      | exact ih0 _ _ _ _ _ _
      | exact portagelaw18_awake.mono _
      | exact portageref17_NewDisk.mono _
      | exact portageref17_Run.mono _ _ _ _ _
      | exact slot_Find.mono _ _
      | exact slot_Plan.mono _ _ _
      | exact LeO.none _
      | refine LeO.ite ?_ ?_
      | refine LeO.bind ?_ (fun _ => ?_)
theorem portagelaw18_SlotReads.mono : ∀ a0 a1 a2 k, LeO (portagelaw18_SlotReads.f k a0 a1 a2) (portagelaw18_SlotReads.f (k + 1) a0 a1 a2) := by
  intro a0 a1 a2 k
  have ih0 := portagelaw18_SlotReads.mono_l k
  unfold portagelaw18_SlotReads.f
  repeat' first
      | (with_reducible exact ih0 _ _ _ _ _ _)
      | (with_reducible exact portagelaw18_awake.mono _)
      | (with_reducible exact portageref17_NewDisk.mono _)
      | (with_reducible exact portageref17_Run.mono _ _ _ _ _)
      | (with_reducible exact slot_Find.mono _ _)
      | (with_reducible exact slot_Plan.mono _ _ _)
      | (with_reducible exact LeO.refl _)
      | (with_reducible exact LeO.none _)
      | (with_reducible refine LeO.ite ?_ ?_)
      | (with_reducible refine LeO.bind ?_ (fun _ => ?_))
      | exact ih0 _ _ _ _ _ _
      | exact portagelaw18_awake.mono _
      | exact portageref17_NewDisk.mono _
      | exact portageref17_Run.mono _ _ _ _ _
      | exact slot_Find.mono _ _
      | exact slot_Plan.mono _ _ _
      | exact LeO.none _
      | refine LeO.ite ?_ ?_
      | refine LeO.bind ?_ (fun _ => ?_)
set_option maxHeartbeats 8000000 in
set_option maxRecDepth 100000 in
theorem portagelaw18_SlotReads.calls (k : Nat) (a0 : ByteArray) (a1 : ByteArray) (a2 : Int) (r : Bool) (w : World) (h : portagelaw18_SlotReads.f k a0 a1 a2 = some r) :
    Calls Try.prog 11 #[.string a0, .string a1, .int .i64 a2] w fun e w' => e = .returned (.bool r) ∧ Below w.heap.size w w' := by
  have HB := Aside0.mk (Below.refl w.heap.size w)
  have H : ((portagelaw18_awake.f k).bind fun t276 => (if t276 = true then (if a0.size + a1.size ≤ 9223372036854775807 then ((slot_Plan.f k (wrap64 (1 + (wrap64 (Int.tmod (IntKind.u64.wrap (a2)) 1048574)))) (a0 ++ a1)).bind fun bt277 => ((slot_Plan.f k (wrap64 ((wrap64 (1 + (wrap64 (Int.tmod (IntKind.u64.wrap (a2)) 1048574)))) + 2)) a1).bind fun bt281 => ((portagelaw0_Num.f bt277.2).bind fun t285 => (if t285 = 0 then ((portagelaw0_Num.f bt281.2).bind fun t286 => (portagelaw18_SlotReads.j0 k a0 a1 (wrap64 (1 + (wrap64 (Int.tmod (IntKind.u64.wrap (a2)) 1048574)))) bt277.1 bt281.1 (t286 != 0))) else (portagelaw18_SlotReads.j0 k a0 a1 (wrap64 (1 + (wrap64 (Int.tmod (IntKind.u64.wrap (a2)) 1048574)))) bt277.1 bt281.1 true))))) else (none)) else (none))) = some r := h
  clear h
  replace H := Option.bind_eq_some_iff.mp H
  obtain ⟨t276, A40, H⟩ := H
  replace H : (if t276 = true then (if a0.size + a1.size ≤ 9223372036854775807 then ((slot_Plan.f k (wrap64 (1 + (wrap64 (Int.tmod (IntKind.u64.wrap (a2)) 1048574)))) (a0 ++ a1)).bind fun bt277 => ((slot_Plan.f k (wrap64 ((wrap64 (1 + (wrap64 (Int.tmod (IntKind.u64.wrap (a2)) 1048574)))) + 2)) a1).bind fun bt281 => ((portagelaw0_Num.f bt277.2).bind fun t285 => (if t285 = 0 then ((portagelaw0_Num.f bt281.2).bind fun t286 => (portagelaw18_SlotReads.j0 k a0 a1 (wrap64 (1 + (wrap64 (Int.tmod (IntKind.u64.wrap (a2)) 1048574)))) bt277.1 bt281.1 (t286 != 0))) else (portagelaw18_SlotReads.j0 k a0 a1 (wrap64 (1 + (wrap64 (Int.tmod (IntKind.u64.wrap (a2)) 1048574)))) bt277.1 bt281.1 true))))) else (none)) else (none)) = some r := H
  have A4 := Aside0.mk A40
  clear A40
  by_cases c5 : t276 = true
  · subst c5
    have H1 : (if a0.size + a1.size ≤ 9223372036854775807 then ((slot_Plan.f k (wrap64 (1 + (wrap64 (Int.tmod (IntKind.u64.wrap (a2)) 1048574)))) (a0 ++ a1)).bind fun bt277 => ((slot_Plan.f k (wrap64 ((wrap64 (1 + (wrap64 (Int.tmod (IntKind.u64.wrap (a2)) 1048574)))) + 2)) a1).bind fun bt281 => ((portagelaw0_Num.f bt277.2).bind fun t285 => (if t285 = 0 then ((portagelaw0_Num.f bt281.2).bind fun t286 => (portagelaw18_SlotReads.j0 k a0 a1 (wrap64 (1 + (wrap64 (Int.tmod (IntKind.u64.wrap (a2)) 1048574)))) bt277.1 bt281.1 (t286 != 0))) else (portagelaw18_SlotReads.j0 k a0 a1 (wrap64 (1 + (wrap64 (Int.tmod (IntKind.u64.wrap (a2)) 1048574)))) bt277.1 bt281.1 true))))) else (none)) = some r := by rw [if_pos rfl] at H; exact H
    clear H
    have H := H1
    clear H1
    by_cases c6 : a0.size + a1.size ≤ 9223372036854775807
    · rw [if_pos c6] at H
      have c6b0 := eq_true c6
      have c6b1 : decide (a0.size + a1.size ≤ 9223372036854775807) = true := decide_eq_true c6
      try have c6b2 : (9223372036854775807 < a0.size + a1.size) = False := eq_false (Nat.not_lt.2 c6)
      replace H := Option.bind_eq_some_iff.mp H
      obtain ⟨⟨t277, t278⟩, A70, H⟩ := H
      replace H : ((slot_Plan.f k (wrap64 ((wrap64 (1 + (wrap64 (Int.tmod (IntKind.u64.wrap (a2)) 1048574)))) + 2)) a1).bind fun bt281 => ((portagelaw0_Num.f t278).bind fun t285 => (if t285 = 0 then ((portagelaw0_Num.f bt281.2).bind fun t286 => (portagelaw18_SlotReads.j0 k a0 a1 (wrap64 (1 + (wrap64 (Int.tmod (IntKind.u64.wrap (a2)) 1048574)))) t277 bt281.1 (t286 != 0))) else (portagelaw18_SlotReads.j0 k a0 a1 (wrap64 (1 + (wrap64 (Int.tmod (IntKind.u64.wrap (a2)) 1048574)))) t277 bt281.1 true)))) = some r := H
      have A7 := Aside0.mk A70
      clear A70
      replace H := Option.bind_eq_some_iff.mp H
      obtain ⟨⟨t281, t282⟩, A80, H⟩ := H
      replace H : ((portagelaw0_Num.f t278).bind fun t285 => (if t285 = 0 then ((portagelaw0_Num.f t282).bind fun t286 => (portagelaw18_SlotReads.j0 k a0 a1 (wrap64 (1 + (wrap64 (Int.tmod (IntKind.u64.wrap (a2)) 1048574)))) t277 t281 (t286 != 0))) else (portagelaw18_SlotReads.j0 k a0 a1 (wrap64 (1 + (wrap64 (Int.tmod (IntKind.u64.wrap (a2)) 1048574)))) t277 t281 true))) = some r := H
      have A8 := Aside0.mk A80
      clear A80
      have HC9 := Aside0.mk H
      clear H
      go_enter Try.func11, Try.ntmps11
      go_upto_region 6 with (first | ((with_reducible refine gate_callee (f := 31) rfl ?_); refine goesL_ (some 22) rfl rfl Try.func31 (by kernel_rfl) rfl #[] rfl (by (try simp only [List.map_toArray, List.map_cons, List.map_nil]); first | done | rfl | (simp only [List.length_drop, List.length_take]; rfl)) ?_; (with_reducible refine (portagelaw18_awake.calls k  true _ A4.out).mono ?_); rintro e w10 ⟨rfl, hb⟩; refine ⟨_, rfl, ?_⟩; have n0_ := Aside0.mk (below_step (by repeat (first | (with_reducible first | exact HB.out | apply below_alloc | apply pw_below_drewN | apply below_drew1) | exact HB.out)) hb); clear HB; have HB := n0_; clear n0_; (try clear hb); (try clear hb2); (try clear hk); (try clear hi)) | ((with_reducible refine gate_callee (f := 25) rfl ?_); refine goesL_ (some 34) rfl rfl Try.func25 (by kernel_rfl) rfl #[.int .i64 (wrap64 (1 + (wrap64 (Int.tmod (IntKind.u64.wrap (a2)) 1048574)))), .string (a0 ++ a1)] rfl (by (try simp only [List.map_toArray, List.map_cons, List.map_nil]); first | done | rfl | (simp only [List.length_drop, List.length_take]; rfl)) ?_; (with_reducible refine (slot_Plan.calls k (wrap64 (1 + (wrap64 (Int.tmod (IntKind.u64.wrap (a2)) 1048574)))) (a0 ++ a1) t277 t278 _ A7.out).mono ?_); rintro e w11 ⟨v279, rfl, ho0, hb⟩; refine ⟨_, rfl, ?_⟩; have n0_ := Aside0.mk (Kd.R_lower ho0 (below_size (by repeat (first | (with_reducible first | exact HB.out | apply below_alloc | apply pw_below_drewN | apply below_drew1) | exact HB.out)))); have n1_ := Aside0.mk (below_step (by repeat (first | (with_reducible first | exact HB.out | apply below_alloc | apply pw_below_drewN | apply below_drew1) | exact HB.out)) hb); clear HB; have HO280 := n0_; have HB := n1_; clear n0_ n1_; (try clear hb); (try clear hb2); (try clear hk); (try clear hi); (try clear ho0)) | ((with_reducible refine gate_callee (f := 25) rfl ?_); refine goesL_ (some 41) rfl rfl Try.func25 (by kernel_rfl) rfl #[.int .i64 (wrap64 ((wrap64 (1 + (wrap64 (Int.tmod (IntKind.u64.wrap (a2)) 1048574)))) + 2)), .string a1] rfl (by (try simp only [List.map_toArray, List.map_cons, List.map_nil]); first | done | rfl | (simp only [List.length_drop, List.length_take]; rfl)) ?_; (with_reducible refine (slot_Plan.calls k (wrap64 ((wrap64 (1 + (wrap64 (Int.tmod (IntKind.u64.wrap (a2)) 1048574)))) + 2)) a1 t281 t282 _ A8.out).mono ?_); rintro e w12 ⟨v283, rfl, ho0, hb⟩; refine ⟨_, rfl, ?_⟩; have n0_ := Aside0.mk (Kd.R_elder' (by (with_reducible repeat (first | apply Kd.R_alloc | apply Kd.R_drewN | apply Kd.R_drew)); exact HO280.out) (Kd.R_base ho0) hb); have n1_ := Aside0.mk (Kd.R_lower (Kd.R_new' ho0 (Kd.R_lt (by (with_reducible repeat (first | apply Kd.R_alloc | apply Kd.R_drewN | apply Kd.R_drew)); exact HO280.out))) (below_size (by repeat (first | (with_reducible first | exact HB.out | apply below_alloc | apply pw_below_drewN | apply below_drew1) | exact HB.out)))); have n2_ := Aside0.mk (below_step (by repeat (first | (with_reducible first | exact HB.out | apply below_alloc | apply pw_below_drewN | apply below_drew1) | exact HB.out)) hb); clear HO280; clear HB; have HO280 := n0_; have HO284 := n1_; have HB := n2_; clear n0_ n1_ n2_; (try clear hb); (try clear hb2); (try clear hk); (try clear hi); (try clear ho0)))
      (try simp only [Act.put, List.setIfInBounds_toArray, List.set_cons_zero, List.set_cons_succ])
      go_cut [51] (fun v51 wc => ∃ (kq : Nat) (x51_8 : Bool), v51 = .bool x51_8 ∧ Aside0 (portagelaw18_SlotReads.j0 kq a0 a1 (wrap64 (1 + (wrap64 (Int.tmod (IntKind.u64.wrap (a2)) 1048574)))) t277 t281 x51_8 = some r) ∧ Aside0 (kq ≤ k) ∧ Aside0 (Kd.R k42 42 wc w.heap.size (fun k_ => some k_ ≠ (v283 : Value).ownBlock) v279 t277) ∧ Aside0 (Kd.R k42 42 wc w.heap.size (fun k_ => some k_ ≠ (v279 : Value).ownBlock) v283 t281) ∧ Aside0 (Below w.heap.size w wc))
      case first =>
        have H := HC9.out
        clear HC9
        replace H := Option.bind_eq_some_iff.mp H
        obtain ⟨t285, A130, H⟩ := H
        replace H : (if t285 = 0 then ((portagelaw0_Num.f t282).bind fun t286 => (portagelaw18_SlotReads.j0 k a0 a1 (wrap64 (1 + (wrap64 (Int.tmod (IntKind.u64.wrap (a2)) 1048574)))) t277 t281 (t286 != 0))) else (portagelaw18_SlotReads.j0 k a0 a1 (wrap64 (1 + (wrap64 (Int.tmod (IntKind.u64.wrap (a2)) 1048574)))) t277 t281 true)) = some r := H
        have A13 := Aside0.mk A130
        clear A130
        by_cases c14 : t285 = 0
        · rw [if_pos c14] at H
          have c14b0 : (t285 == 0) = true := beq_iff_eq.mpr c14
          have c14b1 : (t285 != 0) = false := bne_eq_false_iff_eq.mpr c14
          clear c14
          (first | rw [c14b0] | (simp only [i64_w, i32_w]; rw [c14b0]) | skip)
          replace H := Option.bind_eq_some_iff.mp H
          obtain ⟨t286, A150, H⟩ := H
          replace H : (portagelaw18_SlotReads.j0 k a0 a1 (wrap64 (1 + (wrap64 (Int.tmod (IntKind.u64.wrap (a2)) 1048574)))) t277 t281 (t286 != 0)) = some r := H
          have A15 := Aside0.mk A150
          clear A150
          have H' := Aside0.mk H
          clear H
          go_wp2_with (first | ((with_reducible refine gate_callee (f := 18) rfl ?_); refine goesL_ (some 45) rfl rfl Try.func18 (by kernel_rfl) rfl #[.int .i64 t278] rfl (by (try simp only [List.map_toArray, List.map_cons, List.map_nil]); first | done | rfl | (simp only [List.length_drop, List.length_take]; rfl)) ?_; (with_reducible refine (portagelaw0_Num.calls t278 t285 _ A13.out).mono ?_); rintro e w' ⟨rfl, ⟨nd, rfl⟩⟩; refine ⟨_, rfl, ?_⟩) | (go_at_call 18; (with_reducible refine (portagelaw0_Num.calls t282 t286 _ A15.out).mono ?_); rintro e w' ⟨rfl, ⟨nd, rfl⟩⟩))
          go_meet
          case rel => exact ⟨_, ((t286 != 0)), (by first | rfl | (simp; done) | (simp [*]; done)), H', ⟨by first | omega | exact Nat.le_refl _⟩, ⟨by (with_reducible repeat (first | apply Kd.R_alloc | apply Kd.R_drewN | apply Kd.R_drew)); exact Kd.R_mono HO280.out (fun _ hk => hk.2)⟩, ⟨by (with_reducible repeat (first | apply Kd.R_alloc | apply Kd.R_drewN | apply Kd.R_drew)); exact Kd.R_mono HO284.out (fun _ hk => hk.2)⟩, ⟨by repeat (first | (with_reducible first | exact HB.out | apply below_alloc | apply pw_below_drewN | apply below_drew1) | exact HB.out)⟩⟩
        · rw [if_neg c14] at H
          have c14b0 : (t285 == 0) = false := beq_eq_false_iff_ne.mpr c14
          have c14b1 : (t285 != 0) = true := bne_iff_ne.mpr c14
          (first | rw [c14b0] | (simp only [i64_w, i32_w]; rw [c14b0]) | skip)
          have H' := Aside0.mk H
          clear H
          go_wp2_with (first | ((with_reducible refine gate_callee (f := 18) rfl ?_); refine goesL_ (some 45) rfl rfl Try.func18 (by kernel_rfl) rfl #[.int .i64 t278] rfl (by (try simp only [List.map_toArray, List.map_cons, List.map_nil]); first | done | rfl | (simp only [List.length_drop, List.length_take]; rfl)) ?_; (with_reducible refine (portagelaw0_Num.calls t278 t285 _ A13.out).mono ?_); rintro e w' ⟨rfl, ⟨nd, rfl⟩⟩; refine ⟨_, rfl, ?_⟩))
          go_meet
          case rel => exact ⟨_, (true), (by first | rfl | (simp; done) | (simp [*]; done)), H', ⟨by first | omega | exact Nat.le_refl _⟩, ⟨by (with_reducible repeat (first | apply Kd.R_alloc | apply Kd.R_drewN | apply Kd.R_drew)); exact Kd.R_mono HO280.out (fun _ hk => hk.2)⟩, ⟨by (with_reducible repeat (first | apply Kd.R_alloc | apply Kd.R_drewN | apply Kd.R_drew)); exact Kd.R_mono HO284.out (fun _ hk => hk.2)⟩, ⟨by repeat (first | (with_reducible first | exact HB.out | apply below_alloc | apply pw_below_drewN | apply below_drew1) | exact HB.out)⟩⟩
      case rest =>
        clear HC9
        try clear c1
        try clear c2
        try clear p2
        try clear c3
        try clear c5
        try clear c6
        try clear c6b0
        try clear c6b1
        try clear c6b2
        try clear p6
        try clear c11
        try clear c14
        try clear c14b0
        try clear c14b1
        obtain ⟨kq, x51_8, rfl, HA, HJ8, HO_8, HO_10, HB⟩ := hcut
        cases kq with
        | zero => exact absurd HA.out (by simp [portagelaw18_SlotReads.j0])
        | succ kj8 =>
          have H := HA.out
          clear HA
          simp only [portagelaw18_SlotReads.j0] at H
          by_cases c16 : x51_8 = true
          · subst c16
            have H1 : (some (decide ((wrap64 ((a0.size : Int) + (a1.size : Int))) > 4096))) = some r := by rw [if_pos rfl] at H; exact H
            clear H
            have H := H1
            clear H1
            obtain rfl := Option.some.inj H
            go_wp2
            go_ret
            exact ⟨by first | rfl | (simp [errW_none, errW_some] <;> rfl) | (simp [*, errW_none, errW_some] <;> rfl), by repeat (first | (with_reducible first | exact HB.out | apply below_alloc | apply pw_below_drewN | apply below_drew1) | exact HB.out)⟩
          · replace c16 := Bool.eq_false_iff.mpr c16
            subst c16
            have H1 : ((portageref17_NewDisk.f kj8).bind fun t287 => ((portageref17_Run.f kj8 t287 t277 (t277.length : Int) 0).bind fun bt290 => ((portageref17_Run.f kj8 bt290.1 t281 (t281.length : Int) 0).bind fun bt294 => ((slot_Find.f kj8 bt290.1).bind fun bt298 => ((slot_Find.f kj8 bt294.1).bind fun bt301 => (if bt290.2 = 0 then (if bt294.2 = 0 then ((portagelaw0_Num.f bt298.2.2).bind fun t304 => (if t304 = 0 then ((portagelaw0_Num.f bt301.2.2).bind fun t305 => (if t305 = 0 then (if bt298.1 = (wrap64 (1 + (wrap64 (Int.tmod (IntKind.u64.wrap (a2)) 1048574)))) then (if a0.size + a1.size ≤ 9223372036854775807 then (if bt298.2.1.toList = (a0 ++ a1).toList then (if bt301.1 = (wrap64 ((wrap64 (1 + (wrap64 (Int.tmod (IntKind.u64.wrap (a2)) 1048574)))) + 2)) then (some (bt301.2.1.toList == a1.toList)) else (none)) else (none)) else (none)) else (none)) else (none))) else (none))) else (none)) else (none))))))) = some r := by rw [if_neg (show ¬ (false = true) by decide)] at H; exact H
            clear H
            have H := H1
            clear H1
            replace H := Option.bind_eq_some_iff.mp H
            obtain ⟨t287, A170, H⟩ := H
            replace H : ((portageref17_Run.f kj8 t287 t277 (t277.length : Int) 0).bind fun bt290 => ((portageref17_Run.f kj8 bt290.1 t281 (t281.length : Int) 0).bind fun bt294 => ((slot_Find.f kj8 bt290.1).bind fun bt298 => ((slot_Find.f kj8 bt294.1).bind fun bt301 => (if bt290.2 = 0 then (if bt294.2 = 0 then ((portagelaw0_Num.f bt298.2.2).bind fun t304 => (if t304 = 0 then ((portagelaw0_Num.f bt301.2.2).bind fun t305 => (if t305 = 0 then (if bt298.1 = (wrap64 (1 + (wrap64 (Int.tmod (IntKind.u64.wrap (a2)) 1048574)))) then (if a0.size + a1.size ≤ 9223372036854775807 then (if bt298.2.1.toList = (a0 ++ a1).toList then (if bt301.1 = (wrap64 ((wrap64 (1 + (wrap64 (Int.tmod (IntKind.u64.wrap (a2)) 1048574)))) + 2)) then (some (bt301.2.1.toList == a1.toList)) else (none)) else (none)) else (none)) else (none)) else (none))) else (none))) else (none)) else (none)))))) = some r := H
            have A17 := Aside0.mk A170
            clear A170
            replace H := Option.bind_eq_some_iff.mp H
            obtain ⟨⟨t290, t291⟩, A180, H⟩ := H
            replace H : ((portageref17_Run.f kj8 t290 t281 (t281.length : Int) 0).bind fun bt294 => ((slot_Find.f kj8 t290).bind fun bt298 => ((slot_Find.f kj8 bt294.1).bind fun bt301 => (if t291 = 0 then (if bt294.2 = 0 then ((portagelaw0_Num.f bt298.2.2).bind fun t304 => (if t304 = 0 then ((portagelaw0_Num.f bt301.2.2).bind fun t305 => (if t305 = 0 then (if bt298.1 = (wrap64 (1 + (wrap64 (Int.tmod (IntKind.u64.wrap (a2)) 1048574)))) then (if a0.size + a1.size ≤ 9223372036854775807 then (if bt298.2.1.toList = (a0 ++ a1).toList then (if bt301.1 = (wrap64 ((wrap64 (1 + (wrap64 (Int.tmod (IntKind.u64.wrap (a2)) 1048574)))) + 2)) then (some (bt301.2.1.toList == a1.toList)) else (none)) else (none)) else (none)) else (none)) else (none))) else (none))) else (none)) else (none))))) = some r := H
            have A18 := Aside0.mk A180
            clear A180
            replace H := Option.bind_eq_some_iff.mp H
            obtain ⟨⟨t294, t295⟩, A190, H⟩ := H
            replace H : ((slot_Find.f kj8 t290).bind fun bt298 => ((slot_Find.f kj8 t294).bind fun bt301 => (if t291 = 0 then (if t295 = 0 then ((portagelaw0_Num.f bt298.2.2).bind fun t304 => (if t304 = 0 then ((portagelaw0_Num.f bt301.2.2).bind fun t305 => (if t305 = 0 then (if bt298.1 = (wrap64 (1 + (wrap64 (Int.tmod (IntKind.u64.wrap (a2)) 1048574)))) then (if a0.size + a1.size ≤ 9223372036854775807 then (if bt298.2.1.toList = (a0 ++ a1).toList then (if bt301.1 = (wrap64 ((wrap64 (1 + (wrap64 (Int.tmod (IntKind.u64.wrap (a2)) 1048574)))) + 2)) then (some (bt301.2.1.toList == a1.toList)) else (none)) else (none)) else (none)) else (none)) else (none))) else (none))) else (none)) else (none)))) = some r := H
            have A19 := Aside0.mk A190
            clear A190
            replace H := Option.bind_eq_some_iff.mp H
            obtain ⟨⟨t298, t299, t300⟩, A200, H⟩ := H
            replace H : ((slot_Find.f kj8 t294).bind fun bt301 => (if t291 = 0 then (if t295 = 0 then ((portagelaw0_Num.f t300).bind fun t304 => (if t304 = 0 then ((portagelaw0_Num.f bt301.2.2).bind fun t305 => (if t305 = 0 then (if t298 = (wrap64 (1 + (wrap64 (Int.tmod (IntKind.u64.wrap (a2)) 1048574)))) then (if a0.size + a1.size ≤ 9223372036854775807 then (if t299.toList = (a0 ++ a1).toList then (if bt301.1 = (wrap64 ((wrap64 (1 + (wrap64 (Int.tmod (IntKind.u64.wrap (a2)) 1048574)))) + 2)) then (some (bt301.2.1.toList == a1.toList)) else (none)) else (none)) else (none)) else (none)) else (none))) else (none))) else (none)) else (none))) = some r := H
            have A20 := Aside0.mk A200
            clear A200
            replace H := Option.bind_eq_some_iff.mp H
            obtain ⟨⟨t301, t302, t303⟩, A210, H⟩ := H
            replace H : (if t291 = 0 then (if t295 = 0 then ((portagelaw0_Num.f t300).bind fun t304 => (if t304 = 0 then ((portagelaw0_Num.f t303).bind fun t305 => (if t305 = 0 then (if t298 = (wrap64 (1 + (wrap64 (Int.tmod (IntKind.u64.wrap (a2)) 1048574)))) then (if a0.size + a1.size ≤ 9223372036854775807 then (if t299.toList = (a0 ++ a1).toList then (if t301 = (wrap64 ((wrap64 (1 + (wrap64 (Int.tmod (IntKind.u64.wrap (a2)) 1048574)))) + 2)) then (some (t302.toList == a1.toList)) else (none)) else (none)) else (none)) else (none)) else (none))) else (none))) else (none)) else (none)) = some r := H
            have A21 := Aside0.mk A210
            clear A210
            by_cases c22 : t291 = 0
            · rw [if_pos c22] at H
              have c22b0 : (t291 == 0) = true := beq_iff_eq.mpr c22
              have c22b1 : (t291 != 0) = false := bne_eq_false_iff_eq.mpr c22
              clear c22
              by_cases c23 : t295 = 0
              · rw [if_pos c23] at H
                have c23b0 : (t295 == 0) = true := beq_iff_eq.mpr c23
                have c23b1 : (t295 != 0) = false := bne_eq_false_iff_eq.mpr c23
                clear c23
                replace H := Option.bind_eq_some_iff.mp H
                obtain ⟨t304, A240, H⟩ := H
                replace H : (if t304 = 0 then ((portagelaw0_Num.f t303).bind fun t305 => (if t305 = 0 then (if t298 = (wrap64 (1 + (wrap64 (Int.tmod (IntKind.u64.wrap (a2)) 1048574)))) then (if a0.size + a1.size ≤ 9223372036854775807 then (if t299.toList = (a0 ++ a1).toList then (if t301 = (wrap64 ((wrap64 (1 + (wrap64 (Int.tmod (IntKind.u64.wrap (a2)) 1048574)))) + 2)) then (some (t302.toList == a1.toList)) else (none)) else (none)) else (none)) else (none)) else (none))) else (none)) = some r := H
                have A24 := Aside0.mk A240
                clear A240
                by_cases c25 : t304 = 0
                · rw [if_pos c25] at H
                  have c25b0 : (t304 == 0) = true := beq_iff_eq.mpr c25
                  have c25b1 : (t304 != 0) = false := bne_eq_false_iff_eq.mpr c25
                  clear c25
                  replace H := Option.bind_eq_some_iff.mp H
                  obtain ⟨t305, A260, H⟩ := H
                  replace H : (if t305 = 0 then (if t298 = (wrap64 (1 + (wrap64 (Int.tmod (IntKind.u64.wrap (a2)) 1048574)))) then (if a0.size + a1.size ≤ 9223372036854775807 then (if t299.toList = (a0 ++ a1).toList then (if t301 = (wrap64 ((wrap64 (1 + (wrap64 (Int.tmod (IntKind.u64.wrap (a2)) 1048574)))) + 2)) then (some (t302.toList == a1.toList)) else (none)) else (none)) else (none)) else (none)) else (none)) = some r := H
                  have A26 := Aside0.mk A260
                  clear A260
                  by_cases c27 : t305 = 0
                  · rw [if_pos c27] at H
                    have c27b0 : (t305 == 0) = true := beq_iff_eq.mpr c27
                    have c27b1 : (t305 != 0) = false := bne_eq_false_iff_eq.mpr c27
                    clear c27
                    by_cases c28 : t298 = (wrap64 (1 + (wrap64 (Int.tmod (IntKind.u64.wrap (a2)) 1048574))))
                    · rw [if_pos c28] at H
                      have c28b0 : (t298 == (wrap64 (1 + (wrap64 (Int.tmod (IntKind.u64.wrap (a2)) 1048574))))) = true := beq_iff_eq.mpr c28
                      have c28b1 : (t298 != (wrap64 (1 + (wrap64 (Int.tmod (IntKind.u64.wrap (a2)) 1048574))))) = false := bne_eq_false_iff_eq.mpr c28
                      clear c28
                      by_cases c29 : a0.size + a1.size ≤ 9223372036854775807
                      · rw [if_pos c29] at H
                        have c29b0 := eq_true c29
                        have c29b1 : decide (a0.size + a1.size ≤ 9223372036854775807) = true := decide_eq_true c29
                        try have c29b2 : (9223372036854775807 < a0.size + a1.size) = False := eq_false (Nat.not_lt.2 c29)
                        by_cases c30 : t299.toList = (a0 ++ a1).toList
                        · rw [if_pos c30] at H
                          have c30b0 : (t299.toList == (a0 ++ a1).toList) = true := beq_iff_eq.mpr c30
                          have c30b1 : (t299.toList != (a0 ++ a1).toList) = false := bne_eq_false_iff_eq.mpr c30
                          clear c30
                          by_cases c31 : t301 = (wrap64 ((wrap64 (1 + (wrap64 (Int.tmod (IntKind.u64.wrap (a2)) 1048574)))) + 2))
                          · rw [if_pos c31] at H
                            have c31b0 : (t301 == (wrap64 ((wrap64 (1 + (wrap64 (Int.tmod (IntKind.u64.wrap (a2)) 1048574)))) + 2))) = true := beq_iff_eq.mpr c31
                            have c31b1 : (t301 != (wrap64 ((wrap64 (1 + (wrap64 (Int.tmod (IntKind.u64.wrap (a2)) 1048574)))) + 2))) = false := bne_eq_false_iff_eq.mpr c31
                            clear c31
                            obtain rfl := Option.some.inj H
                            go_wp2_with (first | ((with_reducible refine gate_callee (f := 12) rfl ?_); refine goesL_ (some 59) rfl rfl Try.func12 (by kernel_rfl) rfl #[] rfl (by (try simp only [List.map_toArray, List.map_cons, List.map_nil]); first | done | rfl | (simp only [List.length_drop, List.length_take]; rfl)) ?_; (with_reducible refine (portageref17_NewDisk.calls kj8  t287 _ A17.out).mono ?_); rintro e w32 ⟨v288, rfl, ho0, hb⟩; refine ⟨_, rfl, ?_⟩; have n0_ := Aside0.mk (Kd.R_below (by (with_reducible repeat (first | apply Kd.R_alloc | apply Kd.R_drewN | apply Kd.R_drew)); exact HO_8.out) hb); have n1_ := Aside0.mk (Kd.R_below (by (with_reducible repeat (first | apply Kd.R_alloc | apply Kd.R_drewN | apply Kd.R_drew)); exact HO_10.out) hb); have n2_ := Aside0.mk (Kd.R_lower ho0 (below_size (by repeat (first | (with_reducible first | exact HB.out | apply below_alloc | apply pw_below_drewN | apply below_drew1) | exact HB.out)))); have n3_ := Aside0.mk (below_step (by repeat (first | (with_reducible first | exact HB.out | apply below_alloc | apply pw_below_drewN | apply below_drew1) | exact HB.out)) hb); clear HO_8; clear HO_10; clear HB; have HO_8 := n0_; have HO_10 := n1_; have HO289 := n2_; have HB := n3_; clear n0_ n1_ n2_ n3_; (try clear hb); (try clear hb2); (try clear hk); (try clear hi); (try clear ho0); obtain ⟨Ao33, co33, eo33⟩ := Kd.R_slice HO_8.out; subst eo33; obtain ⟨Ao34, co34, eo34⟩ := Kd.R_slice HO289.out; subst eo34) | ((with_reducible refine gate_callee (f := 16) rfl ?_); refine goesL_ (some 63) rfl rfl Try.func16 (by kernel_rfl) rfl #[.slice Ao34 t287.length co34, .slice Ao33 t277.length co33, .int .i64 (t277.length : Int), .int .i64 0] rfl (by (try simp only [List.map_toArray, List.map_cons, List.map_nil]); first | done | rfl | (simp only [List.length_drop, List.length_take]; rfl)) ?_; (with_reducible refine (portageref17_Run.calls kj8 _ _ t287 _ _ t277 (t277.length : Int) 0 t290 t291 _ ?side1 ?side2 ?side3 ?side4 A18.out).mono ?_); (case side1 => repeat (first | exact (Kd.R_reads' HO289.out).2.2 | (with_reducible refine Kd.C_alloc ?_ _) | (with_reducible refine Kd.C_drewN ?_ _) | (with_reducible refine Kd.C_drew ?_))); (case side2 => exact (Kd.R_reads' HO289.out).2.1); (case side3 => repeat (first | exact (Kd.R_reads' HO_8.out).2.2 | (with_reducible refine Kd.C_alloc ?_ _) | (with_reducible refine Kd.C_drewN ?_ _) | (with_reducible refine Kd.C_drew ?_))); (case side4 => exact (Kd.R_reads' HO_8.out).2.1); rintro e w35 ⟨v292, rfl, ho0, hb⟩; refine ⟨_, rfl, ?_⟩; have n0_ := Aside0.mk (Kd.R_below (by (with_reducible repeat (first | apply Kd.R_alloc | apply Kd.R_drewN | apply Kd.R_drew)); exact HO_8.out) hb); have n1_ := Aside0.mk (Kd.R_below (by (with_reducible repeat (first | apply Kd.R_alloc | apply Kd.R_drewN | apply Kd.R_drew)); exact HO_10.out) hb); have n2_ := Aside0.mk (Kd.R_elder' (by (with_reducible repeat (first | apply Kd.R_alloc | apply Kd.R_drewN | apply Kd.R_drew)); exact HO289.out) (Kd.R_base ho0) hb); have n3_ := Aside0.mk (Kd.R_lower (Kd.R_new' ho0 (Kd.R_lt (by (with_reducible repeat (first | apply Kd.R_alloc | apply Kd.R_drewN | apply Kd.R_drew)); exact HO289.out))) (below_size (by repeat (first | (with_reducible first | exact HB.out | apply below_alloc | apply pw_below_drewN | apply below_drew1) | exact HB.out)))); have n4_ := Aside0.mk (below_step (by repeat (first | (with_reducible first | exact HB.out | apply below_alloc | apply pw_below_drewN | apply below_drew1) | exact HB.out)) hb); clear HO_8; clear HO_10; clear HO289; clear HB; have HO_8 := n0_; have HO_10 := n1_; have HO289 := n2_; have HO293 := n3_; have HB := n4_; clear n0_ n1_ n2_ n3_ n4_; (try clear hb); (try clear hb2); (try clear hk); (try clear hi); (try clear ho0); obtain ⟨Ao36, co36, eo36⟩ := Kd.R_slice HO_10.out; subst eo36; obtain ⟨Ao37, co37, eo37⟩ := Kd.R_slice HO293.out; subst eo37) | ((with_reducible refine gate_callee (f := 16) rfl ?_); refine goesL_ (some 71) rfl rfl Try.func16 (by kernel_rfl) rfl #[.slice Ao37 t290.length co37, .slice Ao36 t281.length co36, .int .i64 (t281.length : Int), .int .i64 0] rfl (by (try simp only [List.map_toArray, List.map_cons, List.map_nil]); first | done | rfl | (simp only [List.length_drop, List.length_take]; rfl)) ?_; (with_reducible refine (portageref17_Run.calls kj8 _ _ t290 _ _ t281 (t281.length : Int) 0 t294 t295 _ ?side1 ?side2 ?side3 ?side4 A19.out).mono ?_); (case side1 => repeat (first | exact (Kd.R_reads' HO293.out).2.2 | (with_reducible refine Kd.C_alloc ?_ _) | (with_reducible refine Kd.C_drewN ?_ _) | (with_reducible refine Kd.C_drew ?_))); (case side2 => exact (Kd.R_reads' HO293.out).2.1); (case side3 => repeat (first | exact (Kd.R_reads' HO_10.out).2.2 | (with_reducible refine Kd.C_alloc ?_ _) | (with_reducible refine Kd.C_drewN ?_ _) | (with_reducible refine Kd.C_drew ?_))); (case side4 => exact (Kd.R_reads' HO_10.out).2.1); rintro e w38 ⟨v296, rfl, ho0, hb⟩; refine ⟨_, rfl, ?_⟩; have n0_ := Aside0.mk (Kd.R_below (by (with_reducible repeat (first | apply Kd.R_alloc | apply Kd.R_drewN | apply Kd.R_drew)); exact HO_8.out) hb); have n1_ := Aside0.mk (Kd.R_below (by (with_reducible repeat (first | apply Kd.R_alloc | apply Kd.R_drewN | apply Kd.R_drew)); exact HO_10.out) hb); have n2_ := Aside0.mk (Kd.R_elder' (by (with_reducible repeat (first | apply Kd.R_alloc | apply Kd.R_drewN | apply Kd.R_drew)); exact HO289.out) (Kd.R_base ho0) hb); have n3_ := Aside0.mk (Kd.R_elder' (by (with_reducible repeat (first | apply Kd.R_alloc | apply Kd.R_drewN | apply Kd.R_drew)); exact HO293.out) (Kd.R_base ho0) hb); have n4_ := Aside0.mk (Kd.R_lower (Kd.R_new' (Kd.R_new' ho0 (Kd.R_lt (by (with_reducible repeat (first | apply Kd.R_alloc | apply Kd.R_drewN | apply Kd.R_drew)); exact HO289.out))) (Kd.R_lt (by (with_reducible repeat (first | apply Kd.R_alloc | apply Kd.R_drewN | apply Kd.R_drew)); exact HO293.out))) (below_size (by repeat (first | (with_reducible first | exact HB.out | apply below_alloc | apply pw_below_drewN | apply below_drew1) | exact HB.out)))); have n5_ := Aside0.mk (below_step (by repeat (first | (with_reducible first | exact HB.out | apply below_alloc | apply pw_below_drewN | apply below_drew1) | exact HB.out)) hb); clear HO_8; clear HO_10; clear HO289; clear HO293; clear HB; have HO_8 := n0_; have HO_10 := n1_; have HO289 := n2_; have HO293 := n3_; have HO297 := n4_; have HB := n5_; clear n0_ n1_ n2_ n3_ n4_ n5_; (try clear hb); (try clear hb2); (try clear hk); (try clear hi); (try clear ho0)) | ((with_reducible refine gate_callee (f := 27) rfl ?_); refine goesL_ (some 76) rfl rfl Try.func27 (by kernel_rfl) rfl #[.slice Ao37 t290.length co37] rfl (by (try simp only [List.map_toArray, List.map_cons, List.map_nil]); first | done | rfl | (simp only [List.length_drop, List.length_take]; rfl)) ?_; (with_reducible refine (slot_Find.calls kj8 _ _ t290 t298 t299 t300 _ ?side1 ?side2 A20.out).mono ?_); (case side1 => repeat (first | exact (Kd.R_reads' HO293.out).2.2 | (with_reducible refine Kd.C_alloc ?_ _) | (with_reducible refine Kd.C_drewN ?_ _) | (with_reducible refine Kd.C_drew ?_))); (case side2 => exact (Kd.R_reads' HO293.out).2.1); rintro e w39 ⟨rfl, hb⟩; refine ⟨_, rfl, ?_⟩; have n0_ := Aside0.mk (Kd.R_below (by (with_reducible repeat (first | apply Kd.R_alloc | apply Kd.R_drewN | apply Kd.R_drew)); exact HO_8.out) hb); have n1_ := Aside0.mk (Kd.R_below (by (with_reducible repeat (first | apply Kd.R_alloc | apply Kd.R_drewN | apply Kd.R_drew)); exact HO_10.out) hb); have n2_ := Aside0.mk (Kd.R_below (by (with_reducible repeat (first | apply Kd.R_alloc | apply Kd.R_drewN | apply Kd.R_drew)); exact HO289.out) hb); have n3_ := Aside0.mk (Kd.R_below (by (with_reducible repeat (first | apply Kd.R_alloc | apply Kd.R_drewN | apply Kd.R_drew)); exact HO293.out) hb); have n4_ := Aside0.mk (Kd.R_below (by (with_reducible repeat (first | apply Kd.R_alloc | apply Kd.R_drewN | apply Kd.R_drew)); exact HO297.out) hb); have n5_ := Aside0.mk (below_step (by repeat (first | (with_reducible first | exact HB.out | apply below_alloc | apply pw_below_drewN | apply below_drew1) | exact HB.out)) hb); clear HO_8; clear HO_10; clear HO289; clear HO293; clear HO297; clear HB; have HO_8 := n0_; have HO_10 := n1_; have HO289 := n2_; have HO293 := n3_; have HO297 := n4_; have HB := n5_; clear n0_ n1_ n2_ n3_ n4_ n5_; (try clear hb); (try clear hb2); (try clear hk); (try clear hi); obtain ⟨Ao40, co40, eo40⟩ := Kd.R_slice HO297.out; subst eo40) | ((with_reducible refine gate_callee (f := 27) rfl ?_); refine goesL_ (some 82) rfl rfl Try.func27 (by kernel_rfl) rfl #[.slice Ao40 t294.length co40] rfl (by (try simp only [List.map_toArray, List.map_cons, List.map_nil]); first | done | rfl | (simp only [List.length_drop, List.length_take]; rfl)) ?_; (with_reducible refine (slot_Find.calls kj8 _ _ t294 t301 t302 t303 _ ?side1 ?side2 A21.out).mono ?_); (case side1 => repeat (first | exact (Kd.R_reads' HO297.out).2.2 | (with_reducible refine Kd.C_alloc ?_ _) | (with_reducible refine Kd.C_drewN ?_ _) | (with_reducible refine Kd.C_drew ?_))); (case side2 => exact (Kd.R_reads' HO297.out).2.1); rintro e w41 ⟨rfl, hb⟩; refine ⟨_, rfl, ?_⟩; have n0_ := Aside0.mk (Kd.R_below (by (with_reducible repeat (first | apply Kd.R_alloc | apply Kd.R_drewN | apply Kd.R_drew)); exact HO_8.out) hb); have n1_ := Aside0.mk (Kd.R_below (by (with_reducible repeat (first | apply Kd.R_alloc | apply Kd.R_drewN | apply Kd.R_drew)); exact HO_10.out) hb); have n2_ := Aside0.mk (Kd.R_below (by (with_reducible repeat (first | apply Kd.R_alloc | apply Kd.R_drewN | apply Kd.R_drew)); exact HO289.out) hb); have n3_ := Aside0.mk (Kd.R_below (by (with_reducible repeat (first | apply Kd.R_alloc | apply Kd.R_drewN | apply Kd.R_drew)); exact HO293.out) hb); have n4_ := Aside0.mk (Kd.R_below (by (with_reducible repeat (first | apply Kd.R_alloc | apply Kd.R_drewN | apply Kd.R_drew)); exact HO297.out) hb); have n5_ := Aside0.mk (below_step (by repeat (first | (with_reducible first | exact HB.out | apply below_alloc | apply pw_below_drewN | apply below_drew1) | exact HB.out)) hb); clear HO_8; clear HO_10; clear HO289; clear HO293; clear HO297; clear HB; have HO_8 := n0_; have HO_10 := n1_; have HO289 := n2_; have HO293 := n3_; have HO297 := n4_; have HB := n5_; clear n0_ n1_ n2_ n3_ n4_ n5_; (try clear hb); (try clear hb2); (try clear hk); (try clear hi)) | (go_at_call 18; (with_reducible refine (portagelaw0_Num.calls t300 t304 _ A24.out).mono ?_); rintro e w' ⟨rfl, ⟨nd, rfl⟩⟩) | (go_at_call 18; (with_reducible refine (portagelaw0_Num.calls t303 t305 _ A26.out).mono ?_); rintro e w' ⟨rfl, ⟨nd, rfl⟩⟩))
                            go_ret
                            exact ⟨by first | rfl | (simp [errW_none, errW_some] <;> rfl) | (simp [*, errW_none, errW_some] <;> rfl), by repeat (first | (with_reducible first | exact HB.out | apply below_alloc | apply pw_below_drewN | apply below_drew1) | exact HB.out)⟩
                          · rw [if_neg c31] at H
                            exact absurd H (by simp)
                        · rw [if_neg c30] at H
                          exact absurd H (by simp)
                      · rw [if_neg c29] at H
                        exact absurd H (by simp)
                    · rw [if_neg c28] at H
                      exact absurd H (by simp)
                  · rw [if_neg c27] at H
                    exact absurd H (by simp)
                · rw [if_neg c25] at H
                  exact absurd H (by simp)
              · rw [if_neg c23] at H
                exact absurd H (by simp)
            · rw [if_neg c22] at H
              exact absurd H (by simp)
    · rw [if_neg c6] at H
      exact absurd H (by simp)
  · replace c5 := Bool.eq_false_iff.mpr c5
    subst c5
    have H1 : (none) = some r := by rw [if_neg (show ¬ (false = true) by decide)] at H; exact H
    clear H
    have H := H1
    clear H1
    exact absurd H (by simp)

/-- THE ONE PURE STATEMENT of portagelaw18_SlotReads: yours. -/
def portagelaw18_SlotReads.Pure : Prop := ∀ (a0 : ByteArray) (a1 : ByteArray) (a2 : Int), a0.size ≤ 140737488351232 → a1.size ≤ 140737488351232 → (Lit.int .i64 a2).wf = true → ∃ k, portagelaw18_SlotReads.f k a0 a1 a2 = some true
theorem portagelaw18_SlotReads.walk (P : portagelaw18_SlotReads.Pure) (a0 : ByteArray) (a1 : ByteArray) (a2 : Int) (w : World) (w0 : a0.size ≤ 140737488351232) (w1 : a1.size ≤ 140737488351232) (w2 : (Lit.int .i64 a2).wf = true) :
    Calls Try.prog 11 #[.string a0, .string a1, .int .i64 a2] w fun e w' => e = .returned (.bool true) ∧ Below w.heap.size w w' := by
  obtain ⟨k, h⟩ := P a0 a1 a2 w0 w1 w2
  refine (portagelaw18_SlotReads.calls k a0 a1 a2 true w h).mono ?_
  rintro e w' ⟨rfl, hd⟩
  exact ⟨rfl, hd⟩

end Go.Proofs.Ytdccnjinehcenaa.L
