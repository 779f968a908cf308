-- Written by a program of this session out of the translation (a changed copy of the kit's printer).
import Derived.Test.YtdccnjinehcenaaD0
import Derived.Test.YtdccnjinehcenaaD1
import Derived.Test.YtdccnjinehcenaaD3
import Derived.Test.YtdccnjinehcenaaD4
import Derived.Test.YtdccnjinehcenaaD5
import Derived.Test.YtdccnjinehcenaaD8
namespace Go.Proofs.Ytdccnjinehcenaa.D
open Go.RowKit Go.Proofs.YtdccnjinehcenaaW.PrintWords Go.Proofs.YtdccnjinehcenaaW.PrintLast Go.Proofs.YtdccnjinehcenaaW.PrintMore
attribute [local go_sem] max2_int min2_int max_two min_two max_three min_three max_four min_four   -- for this text's walks alone
set_option linter.unusedVariables false
set_option linter.unusedSimpArgs false

/-! ### portagelaw17_DiskTorn: function 6 -/
mutual
def portagelaw17_DiskTorn.j1 : Nat → Int → List (S42) → Option (Bool)
  | 0, _, _ => none
  | k + 1, x1, x5 => if (x5.length : Int) < 1 then (some true) else (if (IntKind.u64.wrap ((x5.length : Int))) = 0 then (none) else ((disk_New.f).bind fun t300 => ((disk_Run.f k t300 x5 (wrap64 (Int.tmod (IntKind.u64.wrap (x1)) (IntKind.u64.wrap ((x5.length : Int))))) 0).bind fun bt303 => (if 0 ≤ (wrap64 (Int.tmod (IntKind.u64.wrap (x1)) (IntKind.u64.wrap ((x5.length : Int))))) then (if (wrap64 (Int.tmod (IntKind.u64.wrap (x1)) (IntKind.u64.wrap ((x5.length : Int))))) ≤ (x5.length : Int) then ((disk_Run.f k t300 (x5.take ((wrap64 (Int.tmod (IntKind.u64.wrap (x1)) (IntKind.u64.wrap ((x5.length : Int))))) : Int).toNat) (wrap64 (Int.tmod (IntKind.u64.wrap (x1)) (IntKind.u64.wrap ((x5.length : Int))))) 0).bind fun bt311 => ((disk_Run.f k t300 x5 (wrap64 (Int.tmod (IntKind.u64.wrap (x1)) (IntKind.u64.wrap ((x5.length : Int))))) 64).bind fun bt315 => (if 0 ≤ (wrap64 ((wrap64 (Int.tmod (IntKind.u64.wrap (x1)) (IntKind.u64.wrap ((x5.length : Int))))) + 1)) then (if (wrap64 ((wrap64 (Int.tmod (IntKind.u64.wrap (x1)) (IntKind.u64.wrap ((x5.length : Int))))) + 1)) ≤ (x5.length : Int) then ((disk_Run.f k t300 (x5.take ((wrap64 ((wrap64 (Int.tmod (IntKind.u64.wrap (x1)) (IntKind.u64.wrap ((x5.length : Int))))) + 1)) : Int).toNat) (wrap64 ((wrap64 (Int.tmod (IntKind.u64.wrap (x1)) (IntKind.u64.wrap ((x5.length : Int))))) + 1)) 0).bind fun bt323 => ((disk_Run.f k bt311.1 (x5.drop ((wrap64 (Int.tmod (IntKind.u64.wrap (x1)) (IntKind.u64.wrap ((x5.length : Int))))) : Int).toNat) (wrap64 ((x5.length : Int) - (wrap64 (Int.tmod (IntKind.u64.wrap (x1)) (IntKind.u64.wrap ((x5.length : Int))))))) 0).bind fun bt331 => ((disk_Run.f k t300 x5 (x5.length : Int) 0).bind fun bt335 => ((portagelaw0_Num.f bt303.2).bind fun t339 => (if t339 = 0 then ((portagelaw0_Num.f bt311.2).bind fun t340 => (if t340 = 0 then ((portagelaw0_Num.f bt315.2).bind fun t341 => (if t341 = 0 then ((portagelaw0_Num.f bt323.2).bind fun t342 => (if t342 = 0 then ((portagelaw0_Num.f bt331.2).bind fun t343 => (if t343 = 0 then ((portagelaw0_Num.f bt335.2).bind fun t344 => (if t344 = 0 then ((portagelaw0_SameTexts.f k bt303.1 bt311.1).bind fun t345 => (if t345 = true then ((portagelaw0_SameTexts.f k bt315.1 bt323.1).bind fun t346 => (if t346 = true then ((portagelaw0_SameTexts.f k bt331.1 bt335.1).bind fun t347 => (some t347)) else (none))) else (none))) else (none))) else (none))) else (none))) else (none))) else (none))) else (none)))))) else (none)) else (none)))) else (none)) else (none)))))
def portagelaw17_DiskTorn.l0 : Nat → List Int → Int → List (S42) → Int → Option (Bool)
  | 0, _, _, _, _ => none
  | k + 1, x0, x1, x5, x6 => if x6 < (x0.length : Int) then (if x6 < 30 then (if 0 ≤ x6 then ((portagelaw17_full.f k ((wrap64 (1 + x6)) % 256)).bind fun t296 => (if x5.length < 5864062014805 then (portagelaw17_DiskTorn.l0 k x0 x1 (x5 ++ [(⟨wrap64 (Int.tmod (IntKind.u64.wrap (rd x0 x6)) 130), t296⟩ : S42)]) (wrap64 (x6 + 1))) else (none))) else (none)) else (portagelaw17_DiskTorn.j1 k x1 x5)) else (portagelaw17_DiskTorn.j1 k x1 x5)
end
def portagelaw17_DiskTorn.f (k : Nat) (l0 : List Int) (a1 : Int) : Option (Bool) := (portagelaw17_awake.f k).bind fun t294 => (if t294 = true then (portagelaw17_DiskTorn.l0 k l0 a1 ([] : List (S42)) 0) else (none))
theorem portagelaw17_DiskTorn.mono_l : ∀ k, (∀ y0 y1, LeO (portagelaw17_DiskTorn.j1 k y0 y1) (portagelaw17_DiskTorn.j1 (k + 1) y0 y1)) ∧ (∀ y0 y1 y2 y3, LeO (portagelaw17_DiskTorn.l0 k y0 y1 y2 y3) (portagelaw17_DiskTorn.l0 (k + 1) y0 y1 y2 y3))
  | 0 => ⟨fun _ _ r h => by simp [portagelaw17_DiskTorn.j1] at h, fun _ _ _ _ r h => by simp [portagelaw17_DiskTorn.l0] at h⟩
  | k + 1 => by
    obtain ⟨ih0, ih1⟩ := portagelaw17_DiskTorn.mono_l k
    refine ⟨?_, ?_⟩
    · intro y0 y1
      unfold portagelaw17_DiskTorn.j1
      repeat' first
      | (with_reducible exact ih0 _ _)
      | (with_reducible exact ih1 _ _ _ _)
      | (with_reducible exact disk_Run.mono _ _ _ _ _)
      | (with_reducible exact portagelaw0_SameTexts.mono _ _ _)
      | (with_reducible exact portagelaw17_awake.mono _)
      | (with_reducible exact portagelaw17_full.mono _ _)
      | (with_reducible exact LeO.refl _)
      | (with_reducible exact LeO.none _)
      | (with_reducible refine LeO.ite ?_ ?_)
      | (with_reducible refine LeO.bind ?_ (fun _ => ?_))
      | exact ih0 _ _
      | exact ih1 _ _ _ _
      | exact disk_Run.mono _ _ _ _ _
      | exact portagelaw0_SameTexts.mono _ _ _
      | exact portagelaw17_awake.mono _
      | exact portagelaw17_full.mono _ _
      | exact LeO.none _
      | refine LeO.ite ?_ ?_
      | refine LeO.bind ?_ (fun _ => ?_)
    · intro y0 y1 y2 y3
      unfold portagelaw17_DiskTorn.l0
      repeat' first
      | (with_reducible exact ih0 _ _)
      | (with_reducible exact ih1 _ _ _ _)
      | (with_reducible exact disk_Run.mono _ _ _ _ _)
      | (with_reducible exact portagelaw0_SameTexts.mono _ _ _)
      | (with_reducible exact portagelaw17_awake.mono _)
      | (with_reducible exact portagelaw17_full.mono _ _)
      | (with_reducible exact LeO.refl _)
      | (with_reducible exact LeO.none _)
      | (with_reducible refine LeO.ite ?_ ?_)
      | (with_reducible refine LeO.bind ?_ (fun _ => ?_))
      | exact ih0 _ _
      | exact ih1 _ _ _ _
      | exact disk_Run.mono _ _ _ _ _
      | exact portagelaw0_SameTexts.mono _ _ _
      | exact portagelaw17_awake.mono _
      | exact portagelaw17_full.mono _ _
      | exact LeO.none _
      | refine LeO.ite ?_ ?_
      | refine LeO.bind ?_ (fun _ => ?_)
theorem portagelaw17_DiskTorn.mono : ∀ a0 a1 k, LeO (portagelaw17_DiskTorn.f k a0 a1) (portagelaw17_DiskTorn.f (k + 1) a0 a1) := by
  intro a0 a1 k
  obtain ⟨ih0, ih1⟩ := portagelaw17_DiskTorn.mono_l k
  unfold portagelaw17_DiskTorn.f
  repeat' first
      | (with_reducible exact ih0 _ _)
      | (with_reducible exact ih1 _ _ _ _)
      | (with_reducible exact disk_Run.mono _ _ _ _ _)
      | (with_reducible exact portagelaw0_SameTexts.mono _ _ _)
      | (with_reducible exact portagelaw17_awake.mono _)
      | (with_reducible exact portagelaw17_full.mono _ _)
      | (with_reducible exact LeO.refl _)
      | (with_reducible exact LeO.none _)
      | (with_reducible refine LeO.ite ?_ ?_)
      | (with_reducible refine LeO.bind ?_ (fun _ => ?_))
      | exact ih0 _ _
      | exact ih1 _ _ _ _
      | exact disk_Run.mono _ _ _ _ _
      | exact portagelaw0_SameTexts.mono _ _ _
      | exact portagelaw17_awake.mono _
      | exact portagelaw17_full.mono _ _
      | exact LeO.none _
      | refine LeO.ite ?_ ?_
      | refine LeO.bind ?_ (fun _ => ?_)
def portagelaw17_DiskTorn.T7 : Bool × List (List Nat × List Nat) := (true, [([], []), ([], []), ([], []), ([1, 2], [1, 2]), ([3], [3]), ([4], [4]), ([5], [5]), ([6], [6]), ([], []), ([8], [8]), ([9], [9]), ([10], [10]), ([7, 11], [7, 11]), ([12], [12]), ([0, 13, 11], [0, 13]), ([14, 14, 0, 1, 2, 3, 4, 5, 6, 7, 8, 9, 10, 11, 12, 13, 14], [0, 14])])
def portagelaw17_DiskTorn.B7 : List Nat := [0, 0, 0, 6, 14, 30, 62, 126, 0, 256, 768, 1792, 4094, 8190, 16383, 32767]
theorem portagelaw17_DiskTorn.tab7 : rtab .any (opsOf Try.f6 7) = portagelaw17_DiskTorn.T7 := by kernel_rfl
theorem portagelaw17_DiskTorn.bits7 : waitsOk portagelaw17_DiskTorn.T7.2 portagelaw17_DiskTorn.B7 = true := by kernel_rfl
set_option maxHeartbeats 8000000 in
set_option maxRecDepth 100000 in
theorem portagelaw17_DiskTorn.calls (k : Nat) (A0 : Option Addr) (c0 : Nat) (l0 : List Int) (a1 : Int) (r : Bool) (w : World) (hr0 : Kd.C (Kd.int .i64) w A0 l0.length l0) (hc0 : l0.length ≤ c0) (h : portagelaw17_DiskTorn.f k l0 a1 = some r) :
    Calls Try.prog 6 #[.slice A0 l0.length c0, .int .i64 a1] w fun e w' => e = .returned (.bool r) ∧ Below w.heap.size w w' := by
  have hu42 := Try.underlying42
  have HR0 := Aside0.mk hr0
  have HC0 := Aside0.mk hc0
  clear hr0 hc0
  have HB := Aside0.mk (Below.refl w.heap.size w)
  have H : ((portagelaw17_awake.f k).bind fun t294 => (if t294 = true then (portagelaw17_DiskTorn.l0 k l0 a1 ([] : List (S42)) 0) else (none))) = some r := h
  clear h
  replace H := Option.bind_eq_some_iff.mp H
  obtain ⟨t294, A30, H⟩ := H
  replace H : (if t294 = true then (portagelaw17_DiskTorn.l0 k l0 a1 ([] : List (S42)) 0) else (none)) = some r := H
  have A3 := Aside0.mk A30
  clear A30
  by_cases c4 : t294 = true
  · subst c4
    have H1 : (portagelaw17_DiskTorn.l0 k l0 a1 ([] : List (S42)) 0) = some r := by rw [if_pos rfl] at H; exact H
    clear H
    have H := H1
    clear H1
    have HC5 := Aside0.mk H
    clear H
    go_enter Try.func6, Try.ntmps6
    go_upto_block 0 with (first | ((with_reducible refine gate_callee (f := 24) rfl ?_); refine goesL_ (some 21) rfl rfl Try.func24 (by kernel_rfl) rfl #[] rfl (by (try simp only [List.map_toArray, List.map_cons, List.map_nil]); first | done | rfl | (simp only [List.length_drop, List.length_take]; rfl)) ?_; (with_reducible refine (portagelaw17_awake.calls k  true _ A3.out).mono ?_); rintro e w6 ⟨rfl, hb⟩; refine ⟨_, rfl, ?_⟩; have n0_ := Aside0.mk (below_step (by repeat (first | (with_reducible first | exact HB.out | apply below_alloc | apply pw_below_drewN | apply below_drew1) | exact HB.out)) hb); clear HB; have HB := n0_; clear n0_; (try clear hb); (try clear hb2); (try clear hk); (try clear hi)))
    (try simp only [Act.put, List.setIfInBounds_toArray, List.set_cons_zero, List.set_cons_succ])
    go_cut [5] (fun v5 wc => ∃ (kq : Nat) (x5_4 : List (S42)), Aside0 (portagelaw17_DiskTorn.j1 kq a1 x5_4 = some r) ∧ Aside0 (kq ≤ k) ∧ Aside0 (Kd.R k42 42 wc w.heap.size (fun _ => True) v5 x5_4) ∧ Aside0 (Below w.heap.size w wc))
    case first =>
      have H := HC5.out
      clear HC5
      have H' := Aside0.mk H
      clear H
      go_wp2
      go_loopg [5, 6] k (fun kq v5 v6 w' => ∃ (x5_1 : List (S42)) (x6_1 : Int), v6 = .int .i64 x6_1 ∧ Aside0 (portagelaw17_DiskTorn.l0 kq l0 a1 x5_1 x6_1 = some r) ∧ Aside0 (kq ≤ k) ∧ Aside0 (Kd.R k42 42 w' w.heap.size (fun _ => True) v5 x5_1) ∧ Aside0 (Below w.heap.size w w'))
      case atStart => exact ⟨(([] : List (S42))), (0), (by first | rfl | (simp; done) | (simp [*]; done)), H', ⟨Nat.le_refl _⟩, ⟨by first | exact Kd.R_nil _ _ _ _ _ | exact Kd.N_nil _ _ _ _ _ | exact Kd.V_nil _ _ _ _ _ | exact Kd.Q_nil _ _ _ _ _ | exact Kd.S_nil _ _ _ _ _⟩, ⟨by repeat (first | (with_reducible first | exact HB.out | apply below_alloc | apply pw_below_drewN | apply below_drew1) | exact HB.out)⟩⟩
      case round =>
        clear H'
        try clear c2
        try clear p2
        try clear c4
        try clear c6
        obtain ⟨x5_1, x6_1, rfl, HA, HK1, HO_5, HB⟩ := hrel
        cases gk with
        | zero => exact absurd HA.out (by simp [portagelaw17_DiskTorn.l0])
        | succ k1 =>
          have H := HA.out
          clear HA
          simp only [portagelaw17_DiskTorn.l0] at H
          by_cases c7 : x6_1 < (l0.length : Int)
          · rw [if_pos c7] at H
            have c7b0 : decide (x6_1 < (l0.length : Int)) = true := decide_eq_true c7
            clear c7
            (first | rw [c7b0] | (simp only [i64_w, i32_w]; rw [c7b0]) | skip)
            by_cases c8 : x6_1 < 30
            · rw [if_pos c8] at H
              have c8b0 : decide (x6_1 < 30) = true := decide_eq_true c8
              clear c8
              by_cases c9 : 0 ≤ x6_1
              · rw [if_pos c9] at H
                have c9b0 : decide (0 ≤ x6_1) = true := decide_eq_true c9
                clear c9
                replace H := Option.bind_eq_some_iff.mp H
                obtain ⟨t296, A100, H⟩ := H
                replace H : (if x5_1.length < 5864062014805 then (portagelaw17_DiskTorn.l0 k1 l0 a1 (x5_1 ++ [(⟨wrap64 (Int.tmod (IntKind.u64.wrap (rd l0 x6_1)) 130), t296⟩ : S42)]) (wrap64 (x6_1 + 1))) else (none)) = some r := H
                have A10 := Aside0.mk A100
                clear A100
                by_cases c11 : x5_1.length < 5864062014805
                · rw [if_pos c11] at H
                  have LMc11 := Aside0.mk c11
                  clear c11
                  obtain ⟨y297, hy297⟩ : ∃ y_ : List (S42), y_ = (x5_1 ++ [(⟨wrap64 (Int.tmod (IntKind.u64.wrap (rd l0 x6_1)) 130), t296⟩ : S42)]) := ⟨_, rfl⟩
                  replace H : (portagelaw17_DiskTorn.l0 k1 l0 a1 y297 (wrap64 (x6_1 + 1))) = some r := by first | (rw [hy297]; with_reducible exact H) | (have H2_ := (Option.bind_some _ _).symm.trans H; rw [hy297]; with_reducible exact H2_) | (have H2_ := (Option.bind_some _ _).symm.trans H; with_reducible exact H2_) | with_reducible exact H | (rw [hy297]; exact H) | exact H
                  have Ny297 := Aside0.mk hy297
                  clear hy297
                  have H' := Aside0.mk H
                  clear H
                  try go_wp2
                  have n0_ := Aside0.mk (Kd.R_drew HO_5.out)
                  have n1_ := Aside0.mk (below_drew1 HB.out)
                  clear HO_5
                  clear HB
                  have HO_5 := n0_
                  have HB := n1_
                  clear n0_ n1_
                  have p295 : 0 ≤ (x6_1 : Int) := of_decide_eq_true (by first | (with_reducible assumption) | assumption)
                  have q295 : x6_1 < (l0.length : Int) := of_decide_eq_true (by first | (with_reducible assumption) | assumption)
                  obtain ⟨ad295, e295, hx295_0⟩ := Kd.at_int HR0.out x6_1 p295 q295
                  have hw295_0 := hx295_0
                  cases e295
                  replace hx295_0 := (HB.out.cell (World.block_lt_of_cell? w _ hx295_0)).trans hx295_0
                  replace p295 := eq_true p295
                  replace q295 := eq_true q295
                  refine start_ (n := 16) (S := fun w' => w'.cell? (ad295.add (x6_1).toNat) = some (.int .i64 (rd l0 x6_1))) (ds := []) #[false, false, false, false, false, false, false, false, false, false, false, false, false, false, false, false] (by kernel_rfl) rfl rfl (((HB.out.cell (World.block_lt_of_cell? w _ hw295_0)).trans hw295_0)) (fun hHeld => ?_); refine with_tabW portagelaw17_DiskTorn.tab7 portagelaw17_DiskTorn.bits7 (fun HT_ HW_ => ?_)
                  generalize wr.drew = w12 at HO_5 HB hx295_0 hHeld ⊢
                  refine pure_ (i := 0) (N := some 33) (v := ?_) (a' := ?_) #[true, false, false, false, false, false, false, false, false, false, false, false, false, false, false, false] rfl rfl (any_of HT_.out (by kernel_rfl)) (fun _ _ _ h => h) (Or.inl ⟨by rfl, ?_⟩) ?_ ?_
                  rotate_left
                  · intro w'
                    go_simp
                    with_reducible rfl
                  rotate_left
                  · simp only [Act.put, List.setIfInBounds_toArray, List.set_cons_zero, List.set_cons_succ, i64_w, i32_w, IntKind.wrap_u8, IntKind.wrap_u32]
                    rfl
                  refine pure_ (i := 1) (N := some 34) (v := ?_) (a' := ?_) #[true, true, false, false, false, false, false, false, false, false, false, false, false, false, false, false] rfl rfl (any_of HT_.out (by kernel_rfl)) (fun _ _ _ h => h) (Or.inl ⟨by rfl, ?_⟩) ?_ ?_
                  rotate_left
                  · intro w'
                    go_simp
                    with_reducible rfl
                  rotate_left
                  · simp only [Act.put, List.setIfInBounds_toArray, List.set_cons_zero, List.set_cons_succ, i64_w, i32_w, IntKind.wrap_u8, IntKind.wrap_u32]
                    rfl
                  refine pure_ (i := 2) (N := some 35) (v := ?_) (a' := ?_) #[true, true, true, false, false, false, false, false, false, false, false, false, false, false, false, false] rfl rfl (any_of HT_.out (by kernel_rfl)) (fun _ _ _ h => h) (Or.inl ⟨by rfl, ?_⟩) ?_ ?_
                  rotate_left
                  · intro w'
                    go_simp
                    with_reducible rfl
                  rotate_left
                  · simp only [Act.put, List.setIfInBounds_toArray, List.set_cons_zero, List.set_cons_succ, i64_w, i32_w, IntKind.wrap_u8, IntKind.wrap_u32]
                    rfl
                  refine pure_ (i := 3) (N := some 36) (v := ?_) (a' := ?_) #[true, true, true, true, false, false, false, false, false, false, false, false, false, false, false, false] rfl rfl (any_of HT_.out (by kernel_rfl)) (fun _ _ _ h => h) (Or.inl ⟨by rfl, ?_⟩) ?_ ?_
                  rotate_left
                  · intro w'
                    go_simp
                    with_reducible rfl
                  rotate_left
                  · simp only [Act.put, List.setIfInBounds_toArray, List.set_cons_zero, List.set_cons_succ, i64_w, i32_w, IntKind.wrap_u8, IntKind.wrap_u32]
                    rfl
                  refine pure_ (i := 8) (N := some 41) (v := ?_) (a' := ?_) #[true, true, true, true, false, false, false, false, true, false, false, false, false, false, false, false] rfl rfl (any_of HT_.out (by kernel_rfl)) (fun _ _ _ h => h) (Or.inl ⟨by rfl, ?_⟩) ?_ ?_
                  rotate_left
                  · intro w'
                    go_simp
                    with_reducible rfl
                  rotate_left
                  · simp only [Act.put, List.setIfInBounds_toArray, List.set_cons_zero, List.set_cons_succ, i64_w, i32_w, IntKind.wrap_u8, IntKind.wrap_u32]
                    rfl
                  refine pure_ (i := 9) (N := some 42) (v := ?_) (a' := ?_) #[true, true, true, true, false, false, false, false, true, true, false, false, false, false, false, false] rfl rfl (any_of HT_.out (by kernel_rfl)) (fun _ _ _ h => h) (Or.inl ⟨by rfl, ?_⟩) ?_ ?_
                  rotate_left
                  · intro w'
                    go_simp
                    with_reducible rfl
                  rotate_left
                  · simp only [Act.put, List.setIfInBounds_toArray, List.set_cons_zero, List.set_cons_succ, i64_w, i32_w, IntKind.wrap_u8, IntKind.wrap_u32]
                    rfl
                  refine pure_ (i := 10) (N := some 43) (v := ?_) (a' := ?_) #[true, true, true, true, false, false, false, false, true, true, true, false, false, false, false, false] rfl rfl (any_of HT_.out (by kernel_rfl)) (fun _ _ _ h => h) (Or.inl ⟨by rfl, ?_⟩) ?_ ?_
                  rotate_left
                  · intro w'
                    go_simp
                    with_reducible rfl
                  rotate_left
                  · simp only [Act.put, List.setIfInBounds_toArray, List.set_cons_zero, List.set_cons_succ, i64_w, i32_w, IntKind.wrap_u8, IntKind.wrap_u32]
                    rfl
                  refine take_ (i := 4) (N := some 37) (v := ?_) (a' := ?_) #[true, true, true, true, true, false, false, false, true, true, true, false, false, false, false, false] rfl rfl (take_ofW HT_.out HW_.out (by kernel_rfl)) (fun _ _ _ h => h) (Or.inl ⟨by rfl, ?_⟩) hHeld ?_ ?_
                  rotate_left
                  · intro w' s0
                    go_simp
                    with_reducible rfl
                  rotate_left
                  · simp only [Act.put, List.setIfInBounds_toArray, List.set_cons_zero, List.set_cons_succ, i64_w, i32_w, IntKind.wrap_u8, IntKind.wrap_u32]
                    rfl
                  refine pure_ (i := 5) (N := some 38) (v := ?_) (a' := ?_) #[true, true, true, true, true, true, false, false, true, true, true, false, false, false, false, false] rfl rfl (any_of HT_.out (by kernel_rfl)) (fun _ _ _ h => h) (Or.inl ⟨by rfl, ?_⟩) ?_ ?_
                  rotate_left
                  · intro w'
                    go_simp
                    with_reducible rfl
                  rotate_left
                  · simp only [Act.put, List.setIfInBounds_toArray, List.set_cons_zero, List.set_cons_succ, i64_w, i32_w, IntKind.wrap_u8, IntKind.wrap_u32]
                    rfl
                  refine pure_ (i := 6) (N := some 39) (v := ?_) (a' := ?_) #[true, true, true, true, true, true, true, false, true, true, true, false, false, false, false, false] rfl rfl (any_of HT_.out (by kernel_rfl)) (fun _ _ _ h => h) (Or.inl ⟨by rfl, ?_⟩) ?_ ?_
                  rotate_left
                  · intro w'
                    go_simp
                    with_reducible rfl
                  rotate_left
                  · simp only [Act.put, List.setIfInBounds_toArray, List.set_cons_zero, List.set_cons_succ, i64_w, i32_w, IntKind.wrap_u8, IntKind.wrap_u32]
                    rfl
                  refine pure_ (i := 7) (N := some 40) (v := ?_) (a' := ?_) #[true, true, true, true, true, true, true, true, true, true, true, false, false, false, false, false] rfl rfl (any_of HT_.out (by kernel_rfl)) (fun _ _ _ h => h) (Or.inl ⟨by rfl, ?_⟩) ?_ ?_
                  rotate_left
                  · intro w'
                    go_simp
                    with_reducible rfl
                  rotate_left
                  · simp only [Act.put, List.setIfInBounds_toArray, List.set_cons_zero, List.set_cons_succ, i64_w, i32_w, IntKind.wrap_u8, IntKind.wrap_u32]
                    rfl
                  refine one_ (i := 11) (N := some 44) #[true, true, true, true, true, true, true, true, true, true, true, true, false, false, false, false] rfl rfl (one_of HT_.out (by kernel_rfl)) (by decide) (fun K hK => ?_)
                  refine goes_ Try.func13 (by kernel_rfl) rfl #[.int .u8 ((wrap64 (1 + x6_1)) % 256)] (by rfl) rfl rfl (by (try simp only [List.map_toArray, List.map_cons, List.map_nil]); first | done | rfl | (simp only [List.length_drop, List.length_take]; rfl)) ?_
                  with_reducible refine (portagelaw17_full.calls k1 ((wrap64 (1 + x6_1)) % 256) t296 _ A10.out).mono ?_
                  rintro e w13 ⟨rfl, hb⟩
                  refine ⟨_, rfl, ?_⟩
                  have n0_ := Aside0.mk (Kd.R_below (by (with_reducible repeat (first | apply Kd.R_alloc | apply Kd.R_drewN | apply Kd.R_drew)); exact HO_5.out) hb)
                  have n1_ := Aside0.mk (below_step (by repeat (first | (with_reducible first | exact HB.out | apply below_alloc | apply pw_below_drewN | apply below_drew1) | exact HB.out)) hb)
                  clear HO_5
                  clear HB
                  have HO_5 := n0_
                  have HB := n1_
                  clear n0_ n1_
                  (try clear hb)
                  (try clear hb2)
                  (try clear hk)
                  (try clear hi)
                  refine hK.out _ _ (((HB.out.cell (World.block_lt_of_cell? w _ hw295_0)).trans hw295_0)) (fun hHeld => ?_)
                  clear hK K
                  refine norm_ (a' := ?_) ?_ ?_
                  rotate_left
                  · show Act.put _ (some 44) _ = _
                    simp only [Act.put, List.setIfInBounds_toArray, List.set_cons_zero, List.set_cons_succ, i64_w, i32_w, IntKind.wrap_u8, IntKind.wrap_u32]
                    rfl
                  refine pure_ (i := 12) (N := some 45) (v := ?_) (a' := ?_) #[true, true, true, true, true, true, true, true, true, true, true, true, true, false, false, false] rfl rfl (any_of HT_.out (by kernel_rfl)) (fun _ _ _ h => h) (Or.inl ⟨by rfl, ?_⟩) ?_ ?_
                  rotate_left
                  · intro w'
                    go_simp
                    with_reducible rfl
                  rotate_left
                  · simp only [Act.put, List.setIfInBounds_toArray, List.set_cons_zero, List.set_cons_succ, i64_w, i32_w, IntKind.wrap_u8, IntKind.wrap_u32]
                    rfl
                  refine one_ (i := 13) (N := some 46) #[true, true, true, true, true, true, true, true, true, true, true, true, true, true, false, false] rfl rfl (one_of HT_.out (by kernel_rfl)) (by decide) (fun K hK => ?_)
                  refine value_ (w1 := ?_) (v := ?_) (by rfl) rfl ?_ ?_
                  rotate_left 2
                  · go_simp
                    constructor
                    · rfl
                    · rfl
                  refine hK.out _ _ ((World.cell?_alloc_lt _ _ _ (World.block_lt_of_cell? _ _ (((HB.out.cell (World.block_lt_of_cell? w _ hw295_0)).trans hw295_0)))).trans (((HB.out.cell (World.block_lt_of_cell? w _ hw295_0)).trans hw295_0))) (fun hHeld => ?_)
                  clear hK K
                  refine norm_ (a' := ?_) ?_ ?_
                  rotate_left
                  · show Act.put _ (some 46) _ = _
                    simp only [Act.put, List.setIfInBounds_toArray, List.set_cons_zero, List.set_cons_succ, i64_w, i32_w, IntKind.wrap_u8, IntKind.wrap_u32]
                    rfl
                  refine one_ (i := 14) (N := some 47) #[true, true, true, true, true, true, true, true, true, true, true, true, true, true, true, false] rfl rfl (one_of HT_.out (by kernel_rfl)) (by decide) (fun K hK => ?_)
                  refine Kd.R_append_step k42 (w0 := w) w.heap.size (by rfl) (.tmp 33) (.tmp 46) 23 42 (.agg #[(.int .i64 0), (.string ⟨#[]⟩)]) 24 rfl Try.underlying23 info42 rfl (by decide) (by omega) u5 x5_1 (⟨wrap64 (Int.tmod (IntKind.u64.wrap (rd l0 x6_1)) 130), t296⟩ : S42) [.int .i64 (wrap64 (Int.tmod (IntKind.u64.wrap (rd l0 x6_1)) 130)), .string t296] (fun _ => True) (fun _ => False) rfl rfl ?aP (fun _ hk => hk.elim) ?aF ?aO ?aB ?aS ?aL ?_
                  (case aP => exact k42_mkM _ _ _ (⟨wrap64 (Int.tmod (IntKind.u64.wrap (rd l0 x6_1)) 130), t296⟩ : S42))
                  (case aB => exact (by repeat (first | (with_reducible first | exact HB.out | apply below_alloc | apply pw_below_drewN | apply below_drew1) | exact HB.out)))
                  (case aF => exact (fun _ _ => trivial))
                  (case aO => exact (by (with_reducible repeat (first | apply Kd.R_alloc | apply Kd.R_drewN | apply Kd.R_drew)); exact HO_5.out))
                  (case aS => exact (below_size (by repeat (first | (with_reducible first | exact HB.out | apply below_alloc | apply pw_below_drewN | apply below_drew1) | exact HB.out))))
                  (case aL => have := LMc11.out; omega)
                  intro v298 w14 ho hb hg hat
                  rw [← Ny297.out] at ho
                  have n0_ := Aside0.mk (hb)
                  have n1_ := Aside0.mk (ho)
                  clear HB
                  clear HO_5
                  have HB := n0_
                  have HO299 := n1_
                  clear n0_ n1_
                  clear ho hb hg hat
                  refine hK.out _ _ (((HB.out.cell (World.block_lt_of_cell? w _ hw295_0)).trans hw295_0)) (fun hHeld => ?_)
                  clear hK K
                  refine norm_ (a' := ?_) ?_ ?_
                  rotate_left
                  · show Act.put _ (some 47) _ = _
                    simp only [Act.put, List.setIfInBounds_toArray, List.set_cons_zero, List.set_cons_succ, i64_w, i32_w, IntKind.wrap_u8, IntKind.wrap_u32]
                    rfl
                  refine pure_ (i := 15) (N := some 5) (v := ?_) (a' := ?_) #[true, true, true, true, true, true, true, true, true, true, true, true, true, true, true, true] rfl rfl (any_of HT_.out (by kernel_rfl)) (fun _ _ _ h => h) (Or.inl ⟨by rfl, ?_⟩) ?_ ?_
                  rotate_left
                  · intro w'
                    go_simp
                    with_reducible rfl
                  rotate_left
                  · simp only [Act.put, List.setIfInBounds_toArray, List.set_cons_zero, List.set_cons_succ, i64_w, i32_w, IntKind.wrap_u8, IntKind.wrap_u32]
                    rfl
                  refine done_ (done_of HT_.out (by kernel_rfl)) ?_
                  try go_wp2
                  go_roundg k1
                  case measure => have := HK1.out; omega
                  case rel => exact ⟨(y297), (wrap64 (x6_1 + 1)), (by first | rfl | (simp; done) | (simp [*]; done)), H', ⟨by have := HK1.out; omega⟩, ⟨by (with_reducible repeat (first | apply Kd.R_alloc | apply Kd.R_drewN | apply Kd.R_drew)); exact HO299.out⟩, ⟨by repeat (first | (with_reducible first | exact HB.out | apply below_alloc | apply pw_below_drewN | apply below_drew1) | exact HB.out)⟩⟩
                · rw [if_neg c11] at H
                  exact absurd H (by simp)
              · rw [if_neg c9] at H
                exact absurd H (by simp)
            · rw [if_neg c8] at H
              have c8b0 : decide (x6_1 < 30) = false := decide_eq_false c8
              clear c8
              have H' := Aside0.mk H
              clear H
              go_wp2
              go_meet
              case rel => exact ⟨_, (x5_1), H', ⟨by have := HK1.out; first | omega | exact Nat.le_refl _⟩, ⟨by (with_reducible repeat (first | apply Kd.R_alloc | apply Kd.R_drewN | apply Kd.R_drew)); exact HO_5.out⟩, ⟨by repeat (first | (with_reducible first | exact HB.out | apply below_alloc | apply pw_below_drewN | apply below_drew1) | exact HB.out)⟩⟩
          · rw [if_neg c7] at H
            have c7b0 : decide (x6_1 < (l0.length : Int)) = false := decide_eq_false c7
            clear c7
            (first | rw [c7b0] | (simp only [i64_w, i32_w]; rw [c7b0]) | skip)
            have H' := Aside0.mk H
            clear H
            go_wp2
            go_meet
            case rel => exact ⟨_, (x5_1), H', ⟨by have := HK1.out; first | omega | exact Nat.le_refl _⟩, ⟨by (with_reducible repeat (first | apply Kd.R_alloc | apply Kd.R_drewN | apply Kd.R_drew)); exact HO_5.out⟩, ⟨by repeat (first | (with_reducible first | exact HB.out | apply below_alloc | apply pw_below_drewN | apply below_drew1) | exact HB.out)⟩⟩
    case rest =>
      clear HC5
      try clear c1
      try clear c2
      try clear p2
      try clear q2
      try clear hx2
      try clear c4
      try clear c6
      try clear p6
      try clear c7
      try clear c7b0
      try clear c8
      try clear c8b0
      try clear c9
      try clear c9b0
      try clear c11
      try clear c13
      try clear hx295_0
      try clear p2
      try clear p295
      try clear q295
      obtain ⟨kq, x5_4, HA, HJ4, HO_5, HB⟩ := hcut
      cases kq with
      | zero => exact absurd HA.out (by simp [portagelaw17_DiskTorn.j1])
      | succ kj4 =>
        have H := HA.out
        clear HA
        simp only [portagelaw17_DiskTorn.j1] at H
        by_cases c15 : (x5_4.length : Int) < 1
        · rw [if_pos c15] at H
          have c15b0 : decide ((x5_4.length : Int) < 1) = true := decide_eq_true c15
          have c15b1 : decide (x5_4.length < 1) = true := decide_eq_true (by omega)
          clear c15
          obtain rfl := Option.some.inj H
          obtain ⟨Ao16, co16, eo16⟩ := Kd.R_slice HO_5.out
          subst eo16
          go_wp2
          go_ret
          exact ⟨by first | rfl | (simp [errW_none, errW_some] <;> rfl) | (simp [*, errW_none, errW_some] <;> rfl), by repeat (first | (with_reducible first | exact HB.out | apply below_alloc | apply pw_below_drewN | apply below_drew1) | exact HB.out)⟩
        · rw [if_neg c15] at H
          have c15b0 : decide ((x5_4.length : Int) < 1) = false := decide_eq_false c15
          have c15b1 : decide (x5_4.length < 1) = false := decide_eq_false (by omega)
          clear c15
          by_cases c17 : (IntKind.u64.wrap ((x5_4.length : Int))) = 0
          · rw [if_pos c17] at H
            exact absurd H (by simp)
          · rw [if_neg c17] at H
            have c17b0 : ((IntKind.u64.wrap ((x5_4.length : Int))) == 0) = false := beq_eq_false_iff_ne.mpr c17
            have c17b1 : ((IntKind.u64.wrap ((x5_4.length : Int))) != 0) = true := bne_iff_ne.mpr c17
            replace H := Option.bind_eq_some_iff.mp H
            obtain ⟨t300, A180, H⟩ := H
            replace H : ((disk_Run.f kj4 t300 x5_4 (wrap64 (Int.tmod (IntKind.u64.wrap (a1)) (IntKind.u64.wrap ((x5_4.length : Int))))) 0).bind fun bt303 => (if 0 ≤ (wrap64 (Int.tmod (IntKind.u64.wrap (a1)) (IntKind.u64.wrap ((x5_4.length : Int))))) then (if (wrap64 (Int.tmod (IntKind.u64.wrap (a1)) (IntKind.u64.wrap ((x5_4.length : Int))))) ≤ (x5_4.length : Int) then ((disk_Run.f kj4 t300 (x5_4.take ((wrap64 (Int.tmod (IntKind.u64.wrap (a1)) (IntKind.u64.wrap ((x5_4.length : Int))))) : Int).toNat) (wrap64 (Int.tmod (IntKind.u64.wrap (a1)) (IntKind.u64.wrap ((x5_4.length : Int))))) 0).bind fun bt311 => ((disk_Run.f kj4 t300 x5_4 (wrap64 (Int.tmod (IntKind.u64.wrap (a1)) (IntKind.u64.wrap ((x5_4.length : Int))))) 64).bind fun bt315 => (if 0 ≤ (wrap64 ((wrap64 (Int.tmod (IntKind.u64.wrap (a1)) (IntKind.u64.wrap ((x5_4.length : Int))))) + 1)) then (if (wrap64 ((wrap64 (Int.tmod (IntKind.u64.wrap (a1)) (IntKind.u64.wrap ((x5_4.length : Int))))) + 1)) ≤ (x5_4.length : Int) then ((disk_Run.f kj4 t300 (x5_4.take ((wrap64 ((wrap64 (Int.tmod (IntKind.u64.wrap (a1)) (IntKind.u64.wrap ((x5_4.length : Int))))) + 1)) : Int).toNat) (wrap64 ((wrap64 (Int.tmod (IntKind.u64.wrap (a1)) (IntKind.u64.wrap ((x5_4.length : Int))))) + 1)) 0).bind fun bt323 => ((disk_Run.f kj4 bt311.1 (x5_4.drop ((wrap64 (Int.tmod (IntKind.u64.wrap (a1)) (IntKind.u64.wrap ((x5_4.length : Int))))) : Int).toNat) (wrap64 ((x5_4.length : Int) - (wrap64 (Int.tmod (IntKind.u64.wrap (a1)) (IntKind.u64.wrap ((x5_4.length : Int))))))) 0).bind fun bt331 => ((disk_Run.f kj4 t300 x5_4 (x5_4.length : Int) 0).bind fun bt335 => ((portagelaw0_Num.f bt303.2).bind fun t339 => (if t339 = 0 then ((portagelaw0_Num.f bt311.2).bind fun t340 => (if t340 = 0 then ((portagelaw0_Num.f bt315.2).bind fun t341 => (if t341 = 0 then ((portagelaw0_Num.f bt323.2).bind fun t342 => (if t342 = 0 then ((portagelaw0_Num.f bt331.2).bind fun t343 => (if t343 = 0 then ((portagelaw0_Num.f bt335.2).bind fun t344 => (if t344 = 0 then ((portagelaw0_SameTexts.f kj4 bt303.1 bt311.1).bind fun t345 => (if t345 = true then ((portagelaw0_SameTexts.f kj4 bt315.1 bt323.1).bind fun t346 => (if t346 = true then ((portagelaw0_SameTexts.f kj4 bt331.1 bt335.1).bind fun t347 => (some t347)) else (none))) else (none))) else (none))) else (none))) else (none))) else (none))) else (none))) else (none)))))) else (none)) else (none)))) else (none)) else (none))) = some r := H
            have A18 := Aside0.mk A180
            clear A180
            replace H := Option.bind_eq_some_iff.mp H
            obtain ⟨⟨t303, t304⟩, A190, H⟩ := H
            replace H : (if 0 ≤ (wrap64 (Int.tmod (IntKind.u64.wrap (a1)) (IntKind.u64.wrap ((x5_4.length : Int))))) then (if (wrap64 (Int.tmod (IntKind.u64.wrap (a1)) (IntKind.u64.wrap ((x5_4.length : Int))))) ≤ (x5_4.length : Int) then ((disk_Run.f kj4 t300 (x5_4.take ((wrap64 (Int.tmod (IntKind.u64.wrap (a1)) (IntKind.u64.wrap ((x5_4.length : Int))))) : Int).toNat) (wrap64 (Int.tmod (IntKind.u64.wrap (a1)) (IntKind.u64.wrap ((x5_4.length : Int))))) 0).bind fun bt311 => ((disk_Run.f kj4 t300 x5_4 (wrap64 (Int.tmod (IntKind.u64.wrap (a1)) (IntKind.u64.wrap ((x5_4.length : Int))))) 64).bind fun bt315 => (if 0 ≤ (wrap64 ((wrap64 (Int.tmod (IntKind.u64.wrap (a1)) (IntKind.u64.wrap ((x5_4.length : Int))))) + 1)) then (if (wrap64 ((wrap64 (Int.tmod (IntKind.u64.wrap (a1)) (IntKind.u64.wrap ((x5_4.length : Int))))) + 1)) ≤ (x5_4.length : Int) then ((disk_Run.f kj4 t300 (x5_4.take ((wrap64 ((wrap64 (Int.tmod (IntKind.u64.wrap (a1)) (IntKind.u64.wrap ((x5_4.length : Int))))) + 1)) : Int).toNat) (wrap64 ((wrap64 (Int.tmod (IntKind.u64.wrap (a1)) (IntKind.u64.wrap ((x5_4.length : Int))))) + 1)) 0).bind fun bt323 => ((disk_Run.f kj4 bt311.1 (x5_4.drop ((wrap64 (Int.tmod (IntKind.u64.wrap (a1)) (IntKind.u64.wrap ((x5_4.length : Int))))) : Int).toNat) (wrap64 ((x5_4.length : Int) - (wrap64 (Int.tmod (IntKind.u64.wrap (a1)) (IntKind.u64.wrap ((x5_4.length : Int))))))) 0).bind fun bt331 => ((disk_Run.f kj4 t300 x5_4 (x5_4.length : Int) 0).bind fun bt335 => ((portagelaw0_Num.f t304).bind fun t339 => (if t339 = 0 then ((portagelaw0_Num.f bt311.2).bind fun t340 => (if t340 = 0 then ((portagelaw0_Num.f bt315.2).bind fun t341 => (if t341 = 0 then ((portagelaw0_Num.f bt323.2).bind fun t342 => (if t342 = 0 then ((portagelaw0_Num.f bt331.2).bind fun t343 => (if t343 = 0 then ((portagelaw0_Num.f bt335.2).bind fun t344 => (if t344 = 0 then ((portagelaw0_SameTexts.f kj4 t303 bt311.1).bind fun t345 => (if t345 = true then ((portagelaw0_SameTexts.f kj4 bt315.1 bt323.1).bind fun t346 => (if t346 = true then ((portagelaw0_SameTexts.f kj4 bt331.1 bt335.1).bind fun t347 => (some t347)) else (none))) else (none))) else (none))) else (none))) else (none))) else (none))) else (none))) else (none)))))) else (none)) else (none)))) else (none)) else (none)) = some r := H
            have A19 := Aside0.mk A190
            clear A190
            obtain ⟨ji20, hji20⟩ : ∃ j_ : Int, (wrap64 (Int.tmod (IntKind.u64.wrap (a1)) (IntKind.u64.wrap ((x5_4.length : Int))))) = j_ := ⟨_, rfl⟩
            replace H : (if 0 ≤ (ji20) then (if (ji20) ≤ (x5_4.length : Int) then ((disk_Run.f kj4 t300 (x5_4.take ((ji20) : Int).toNat) (ji20) 0).bind fun bt311 => ((disk_Run.f kj4 t300 x5_4 (ji20) 64).bind fun bt315 => (if 0 ≤ (wrap64 ((ji20) + 1)) then (if (wrap64 ((ji20) + 1)) ≤ (x5_4.length : Int) then ((disk_Run.f kj4 t300 (x5_4.take ((wrap64 ((ji20) + 1)) : Int).toNat) (wrap64 ((ji20) + 1)) 0).bind fun bt323 => ((disk_Run.f kj4 bt311.1 (x5_4.drop ((ji20) : Int).toNat) (wrap64 ((x5_4.length : Int) - (ji20))) 0).bind fun bt331 => ((disk_Run.f kj4 t300 x5_4 (x5_4.length : Int) 0).bind fun bt335 => ((portagelaw0_Num.f t304).bind fun t339 => (if t339 = 0 then ((portagelaw0_Num.f bt311.2).bind fun t340 => (if t340 = 0 then ((portagelaw0_Num.f bt315.2).bind fun t341 => (if t341 = 0 then ((portagelaw0_Num.f bt323.2).bind fun t342 => (if t342 = 0 then ((portagelaw0_Num.f bt331.2).bind fun t343 => (if t343 = 0 then ((portagelaw0_Num.f bt335.2).bind fun t344 => (if t344 = 0 then ((portagelaw0_SameTexts.f kj4 t303 bt311.1).bind fun t345 => (if t345 = true then ((portagelaw0_SameTexts.f kj4 bt315.1 bt323.1).bind fun t346 => (if t346 = true then ((portagelaw0_SameTexts.f kj4 bt331.1 bt335.1).bind fun t347 => (some t347)) else (none))) else (none))) else (none))) else (none))) else (none))) else (none))) else (none))) else (none)))))) else (none)) else (none)))) else (none)) else (none)) = some r := by first | (rw [hji20] at H; exact H) | (simp only [hji20] at H ⊢; exact H)
            (try rw [hji20] at A18)
            (try rw [hji20] at A19)
            have hji20w : (IntKind.i64.wrap (Int.tmod (IntKind.u64.wrap (a1)) (IntKind.u64.wrap ((x5_4.length : Int))))) = ji20 := (i64_w _).trans hji20
            by_cases c21 : 0 ≤ (ji20)
            · rw [if_pos c21] at H
              have c21b0 := eq_true c21
              have c21b1 : decide (0 ≤ (ji20)) = true := decide_eq_true c21
              clear c21
              by_cases c22 : (ji20) ≤ (x5_4.length : Int)
              · rw [if_pos c22] at H
                have c22b0 := eq_true c22
                have c22b1 : decide ((ji20) ≤ (x5_4.length : Int)) = true := decide_eq_true c22
                clear c22
                obtain ⟨y307, hy307⟩ : ∃ y_ : List (S42), y_ = (x5_4.take ((ji20) : Int).toNat) := ⟨_, rfl⟩
                replace H : ((disk_Run.f kj4 t300 y307 (ji20) 0).bind fun bt311 => ((disk_Run.f kj4 t300 x5_4 (ji20) 64).bind fun bt315 => (if 0 ≤ (wrap64 ((ji20) + 1)) then (if (wrap64 ((ji20) + 1)) ≤ (x5_4.length : Int) then ((disk_Run.f kj4 t300 (x5_4.take ((wrap64 ((ji20) + 1)) : Int).toNat) (wrap64 ((ji20) + 1)) 0).bind fun bt323 => ((disk_Run.f kj4 bt311.1 (x5_4.drop ((ji20) : Int).toNat) (wrap64 ((x5_4.length : Int) - (ji20))) 0).bind fun bt331 => ((disk_Run.f kj4 t300 x5_4 (x5_4.length : Int) 0).bind fun bt335 => ((portagelaw0_Num.f t304).bind fun t339 => (if t339 = 0 then ((portagelaw0_Num.f bt311.2).bind fun t340 => (if t340 = 0 then ((portagelaw0_Num.f bt315.2).bind fun t341 => (if t341 = 0 then ((portagelaw0_Num.f bt323.2).bind fun t342 => (if t342 = 0 then ((portagelaw0_Num.f bt331.2).bind fun t343 => (if t343 = 0 then ((portagelaw0_Num.f bt335.2).bind fun t344 => (if t344 = 0 then ((portagelaw0_SameTexts.f kj4 t303 bt311.1).bind fun t345 => (if t345 = true then ((portagelaw0_SameTexts.f kj4 bt315.1 bt323.1).bind fun t346 => (if t346 = true then ((portagelaw0_SameTexts.f kj4 bt331.1 bt335.1).bind fun t347 => (some t347)) else (none))) else (none))) else (none))) else (none))) else (none))) else (none))) else (none))) else (none)))))) else (none)) else (none)))) = some r := by first | (rw [hy307]; with_reducible exact H) | (have H2_ := (Option.bind_some _ _).symm.trans H; rw [hy307]; with_reducible exact H2_) | (have H2_ := (Option.bind_some _ _).symm.trans H; with_reducible exact H2_) | with_reducible exact H | (rw [hy307]; exact H) | exact H
                have Ny307 := Aside0.mk hy307
                clear hy307
                replace H := Option.bind_eq_some_iff.mp H
                obtain ⟨⟨t311, t312⟩, A230, H⟩ := H
                replace H : ((disk_Run.f kj4 t300 x5_4 (ji20) 64).bind fun bt315 => (if 0 ≤ (wrap64 ((ji20) + 1)) then (if (wrap64 ((ji20) + 1)) ≤ (x5_4.length : Int) then ((disk_Run.f kj4 t300 (x5_4.take ((wrap64 ((ji20) + 1)) : Int).toNat) (wrap64 ((ji20) + 1)) 0).bind fun bt323 => ((disk_Run.f kj4 t311 (x5_4.drop ((ji20) : Int).toNat) (wrap64 ((x5_4.length : Int) - (ji20))) 0).bind fun bt331 => ((disk_Run.f kj4 t300 x5_4 (x5_4.length : Int) 0).bind fun bt335 => ((portagelaw0_Num.f t304).bind fun t339 => (if t339 = 0 then ((portagelaw0_Num.f t312).bind fun t340 => (if t340 = 0 then ((portagelaw0_Num.f bt315.2).bind fun t341 => (if t341 = 0 then ((portagelaw0_Num.f bt323.2).bind fun t342 => (if t342 = 0 then ((portagelaw0_Num.f bt331.2).bind fun t343 => (if t343 = 0 then ((portagelaw0_Num.f bt335.2).bind fun t344 => (if t344 = 0 then ((portagelaw0_SameTexts.f kj4 t303 t311).bind fun t345 => (if t345 = true then ((portagelaw0_SameTexts.f kj4 bt315.1 bt323.1).bind fun t346 => (if t346 = true then ((portagelaw0_SameTexts.f kj4 bt331.1 bt335.1).bind fun t347 => (some t347)) else (none))) else (none))) else (none))) else (none))) else (none))) else (none))) else (none))) else (none)))))) else (none)) else (none))) = some r := H
                have A23 := Aside0.mk A230
                clear A230
                replace H := Option.bind_eq_some_iff.mp H
                obtain ⟨⟨t315, t316⟩, A240, H⟩ := H
                replace H : (if 0 ≤ (wrap64 ((ji20) + 1)) then (if (wrap64 ((ji20) + 1)) ≤ (x5_4.length : Int) then ((disk_Run.f kj4 t300 (x5_4.take ((wrap64 ((ji20) + 1)) : Int).toNat) (wrap64 ((ji20) + 1)) 0).bind fun bt323 => ((disk_Run.f kj4 t311 (x5_4.drop ((ji20) : Int).toNat) (wrap64 ((x5_4.length : Int) - (ji20))) 0).bind fun bt331 => ((disk_Run.f kj4 t300 x5_4 (x5_4.length : Int) 0).bind fun bt335 => ((portagelaw0_Num.f t304).bind fun t339 => (if t339 = 0 then ((portagelaw0_Num.f t312).bind fun t340 => (if t340 = 0 then ((portagelaw0_Num.f t316).bind fun t341 => (if t341 = 0 then ((portagelaw0_Num.f bt323.2).bind fun t342 => (if t342 = 0 then ((portagelaw0_Num.f bt331.2).bind fun t343 => (if t343 = 0 then ((portagelaw0_Num.f bt335.2).bind fun t344 => (if t344 = 0 then ((portagelaw0_SameTexts.f kj4 t303 t311).bind fun t345 => (if t345 = true then ((portagelaw0_SameTexts.f kj4 t315 bt323.1).bind fun t346 => (if t346 = true then ((portagelaw0_SameTexts.f kj4 bt331.1 bt335.1).bind fun t347 => (some t347)) else (none))) else (none))) else (none))) else (none))) else (none))) else (none))) else (none))) else (none)))))) else (none)) else (none)) = some r := H
                have A24 := Aside0.mk A240
                clear A240
                obtain ⟨ji25, hji25⟩ : ∃ j_ : Int, (wrap64 ((ji20) + 1)) = j_ := ⟨_, rfl⟩
                replace H : (if 0 ≤ (ji25) then (if (ji25) ≤ (x5_4.length : Int) then ((disk_Run.f kj4 t300 (x5_4.take ((ji25) : Int).toNat) (ji25) 0).bind fun bt323 => ((disk_Run.f kj4 t311 (x5_4.drop ((ji20) : Int).toNat) (wrap64 ((x5_4.length : Int) - (ji20))) 0).bind fun bt331 => ((disk_Run.f kj4 t300 x5_4 (x5_4.length : Int) 0).bind fun bt335 => ((portagelaw0_Num.f t304).bind fun t339 => (if t339 = 0 then ((portagelaw0_Num.f t312).bind fun t340 => (if t340 = 0 then ((portagelaw0_Num.f t316).bind fun t341 => (if t341 = 0 then ((portagelaw0_Num.f bt323.2).bind fun t342 => (if t342 = 0 then ((portagelaw0_Num.f bt331.2).bind fun t343 => (if t343 = 0 then ((portagelaw0_Num.f bt335.2).bind fun t344 => (if t344 = 0 then ((portagelaw0_SameTexts.f kj4 t303 t311).bind fun t345 => (if t345 = true then ((portagelaw0_SameTexts.f kj4 t315 bt323.1).bind fun t346 => (if t346 = true then ((portagelaw0_SameTexts.f kj4 bt331.1 bt335.1).bind fun t347 => (some t347)) else (none))) else (none))) else (none))) else (none))) else (none))) else (none))) else (none))) else (none)))))) else (none)) else (none)) = some r := by first | (rw [hji25] at H; exact H) | (simp only [hji25] at H ⊢; exact H)
                (try rw [hji25] at A18)
                (try rw [hji25] at A19)
                (try rw [hji25] at A23)
                (try rw [hji25] at A24)
                have hji25w : (IntKind.i64.wrap ((ji20) + 1)) = ji25 := (i64_w _).trans hji25
                by_cases c26 : 0 ≤ (ji25)
                · rw [if_pos c26] at H
                  have c26b0 := eq_true c26
                  have c26b1 : decide (0 ≤ (ji25)) = true := decide_eq_true c26
                  clear c26
                  by_cases c27 : (ji25) ≤ (x5_4.length : Int)
                  · rw [if_pos c27] at H
                    have c27b0 := eq_true c27
                    have c27b1 : decide ((ji25) ≤ (x5_4.length : Int)) = true := decide_eq_true c27
                    clear c27
                    obtain ⟨y319, hy319⟩ : ∃ y_ : List (S42), y_ = (x5_4.take ((ji25) : Int).toNat) := ⟨_, rfl⟩
                    replace H : ((disk_Run.f kj4 t300 y319 (ji25) 0).bind fun bt323 => ((disk_Run.f kj4 t311 (x5_4.drop ((ji20) : Int).toNat) (wrap64 ((x5_4.length : Int) - (ji20))) 0).bind fun bt331 => ((disk_Run.f kj4 t300 x5_4 (x5_4.length : Int) 0).bind fun bt335 => ((portagelaw0_Num.f t304).bind fun t339 => (if t339 = 0 then ((portagelaw0_Num.f t312).bind fun t340 => (if t340 = 0 then ((portagelaw0_Num.f t316).bind fun t341 => (if t341 = 0 then ((portagelaw0_Num.f bt323.2).bind fun t342 => (if t342 = 0 then ((portagelaw0_Num.f bt331.2).bind fun t343 => (if t343 = 0 then ((portagelaw0_Num.f bt335.2).bind fun t344 => (if t344 = 0 then ((portagelaw0_SameTexts.f kj4 t303 t311).bind fun t345 => (if t345 = true then ((portagelaw0_SameTexts.f kj4 t315 bt323.1).bind fun t346 => (if t346 = true then ((portagelaw0_SameTexts.f kj4 bt331.1 bt335.1).bind fun t347 => (some t347)) else (none))) else (none))) else (none))) else (none))) else (none))) else (none))) else (none))) else (none)))))) = some r := by first | (rw [hy319]; with_reducible exact H) | (have H2_ := (Option.bind_some _ _).symm.trans H; rw [hy319]; with_reducible exact H2_) | (have H2_ := (Option.bind_some _ _).symm.trans H; with_reducible exact H2_) | with_reducible exact H | (rw [hy319]; exact H) | exact H
                    have Ny319 := Aside0.mk hy319
                    clear hy319
                    replace H := Option.bind_eq_some_iff.mp H
                    obtain ⟨⟨t323, t324⟩, A280, H⟩ := H
                    replace H : ((disk_Run.f kj4 t311 (x5_4.drop ((ji20) : Int).toNat) (wrap64 ((x5_4.length : Int) - (ji20))) 0).bind fun bt331 => ((disk_Run.f kj4 t300 x5_4 (x5_4.length : Int) 0).bind fun bt335 => ((portagelaw0_Num.f t304).bind fun t339 => (if t339 = 0 then ((portagelaw0_Num.f t312).bind fun t340 => (if t340 = 0 then ((portagelaw0_Num.f t316).bind fun t341 => (if t341 = 0 then ((portagelaw0_Num.f t324).bind fun t342 => (if t342 = 0 then ((portagelaw0_Num.f bt331.2).bind fun t343 => (if t343 = 0 then ((portagelaw0_Num.f bt335.2).bind fun t344 => (if t344 = 0 then ((portagelaw0_SameTexts.f kj4 t303 t311).bind fun t345 => (if t345 = true then ((portagelaw0_SameTexts.f kj4 t315 t323).bind fun t346 => (if t346 = true then ((portagelaw0_SameTexts.f kj4 bt331.1 bt335.1).bind fun t347 => (some t347)) else (none))) else (none))) else (none))) else (none))) else (none))) else (none))) else (none))) else (none))))) = some r := H
                    have A28 := Aside0.mk A280
                    clear A280
                    have c29b0 := eq_true (of_decide_eq_true (by first | (with_reducible assumption) | assumption) : 0 ≤ (ji20))
                    have c30b0 := eq_true (of_decide_eq_true (by first | (with_reducible assumption) | assumption) : (ji20) ≤ (x5_4.length : Int))
                    obtain ⟨y327, hy327⟩ : ∃ y_ : List (S42), y_ = (x5_4.drop ((ji20) : Int).toNat) := ⟨_, rfl⟩
                    replace H : ((disk_Run.f kj4 t311 y327 (wrap64 ((x5_4.length : Int) - (ji20))) 0).bind fun bt331 => ((disk_Run.f kj4 t300 x5_4 (x5_4.length : Int) 0).bind fun bt335 => ((portagelaw0_Num.f t304).bind fun t339 => (if t339 = 0 then ((portagelaw0_Num.f t312).bind fun t340 => (if t340 = 0 then ((portagelaw0_Num.f t316).bind fun t341 => (if t341 = 0 then ((portagelaw0_Num.f t324).bind fun t342 => (if t342 = 0 then ((portagelaw0_Num.f bt331.2).bind fun t343 => (if t343 = 0 then ((portagelaw0_Num.f bt335.2).bind fun t344 => (if t344 = 0 then ((portagelaw0_SameTexts.f kj4 t303 t311).bind fun t345 => (if t345 = true then ((portagelaw0_SameTexts.f kj4 t315 t323).bind fun t346 => (if t346 = true then ((portagelaw0_SameTexts.f kj4 bt331.1 bt335.1).bind fun t347 => (some t347)) else (none))) else (none))) else (none))) else (none))) else (none))) else (none))) else (none))) else (none))))) = some r := by first | (rw [hy327]; with_reducible exact H) | (have H2_ := (Option.bind_some _ _).symm.trans H; rw [hy327]; with_reducible exact H2_) | (have H2_ := (Option.bind_some _ _).symm.trans H; with_reducible exact H2_) | with_reducible exact H | (rw [hy327]; exact H) | exact H
                    have Ny327 := Aside0.mk hy327
                    clear hy327
                    replace H := Option.bind_eq_some_iff.mp H
                    obtain ⟨⟨t331, t332⟩, A310, H⟩ := H
                    replace H : ((disk_Run.f kj4 t300 x5_4 (x5_4.length : Int) 0).bind fun bt335 => ((portagelaw0_Num.f t304).bind fun t339 => (if t339 = 0 then ((portagelaw0_Num.f t312).bind fun t340 => (if t340 = 0 then ((portagelaw0_Num.f t316).bind fun t341 => (if t341 = 0 then ((portagelaw0_Num.f t324).bind fun t342 => (if t342 = 0 then ((portagelaw0_Num.f t332).bind fun t343 => (if t343 = 0 then ((portagelaw0_Num.f bt335.2).bind fun t344 => (if t344 = 0 then ((portagelaw0_SameTexts.f kj4 t303 t311).bind fun t345 => (if t345 = true then ((portagelaw0_SameTexts.f kj4 t315 t323).bind fun t346 => (if t346 = true then ((portagelaw0_SameTexts.f kj4 t331 bt335.1).bind fun t347 => (some t347)) else (none))) else (none))) else (none))) else (none))) else (none))) else (none))) else (none))) else (none)))) = some r := H
                    have A31 := Aside0.mk A310
                    clear A310
                    replace H := Option.bind_eq_some_iff.mp H
                    obtain ⟨⟨t335, t336⟩, A320, H⟩ := H
                    replace H : ((portagelaw0_Num.f t304).bind fun t339 => (if t339 = 0 then ((portagelaw0_Num.f t312).bind fun t340 => (if t340 = 0 then ((portagelaw0_Num.f t316).bind fun t341 => (if t341 = 0 then ((portagelaw0_Num.f t324).bind fun t342 => (if t342 = 0 then ((portagelaw0_Num.f t332).bind fun t343 => (if t343 = 0 then ((portagelaw0_Num.f t336).bind fun t344 => (if t344 = 0 then ((portagelaw0_SameTexts.f kj4 t303 t311).bind fun t345 => (if t345 = true then ((portagelaw0_SameTexts.f kj4 t315 t323).bind fun t346 => (if t346 = true then ((portagelaw0_SameTexts.f kj4 t331 t335).bind fun t347 => (some t347)) else (none))) else (none))) else (none))) else (none))) else (none))) else (none))) else (none))) else (none))) = some r := H
                    have A32 := Aside0.mk A320
                    clear A320
                    replace H := Option.bind_eq_some_iff.mp H
                    obtain ⟨t339, A330, H⟩ := H
                    replace H : (if t339 = 0 then ((portagelaw0_Num.f t312).bind fun t340 => (if t340 = 0 then ((portagelaw0_Num.f t316).bind fun t341 => (if t341 = 0 then ((portagelaw0_Num.f t324).bind fun t342 => (if t342 = 0 then ((portagelaw0_Num.f t332).bind fun t343 => (if t343 = 0 then ((portagelaw0_Num.f t336).bind fun t344 => (if t344 = 0 then ((portagelaw0_SameTexts.f kj4 t303 t311).bind fun t345 => (if t345 = true then ((portagelaw0_SameTexts.f kj4 t315 t323).bind fun t346 => (if t346 = true then ((portagelaw0_SameTexts.f kj4 t331 t335).bind fun t347 => (some t347)) else (none))) else (none))) else (none))) else (none))) else (none))) else (none))) else (none))) else (none)) = some r := H
                    have A33 := Aside0.mk A330
                    clear A330
                    by_cases c34 : t339 = 0
                    · rw [if_pos c34] at H
                      have c34b0 : (t339 == 0) = true := beq_iff_eq.mpr c34
                      have c34b1 : (t339 != 0) = false := bne_eq_false_iff_eq.mpr c34
                      clear c34
                      replace H := Option.bind_eq_some_iff.mp H
                      obtain ⟨t340, A350, H⟩ := H
                      replace H : (if t340 = 0 then ((portagelaw0_Num.f t316).bind fun t341 => (if t341 = 0 then ((portagelaw0_Num.f t324).bind fun t342 => (if t342 = 0 then ((portagelaw0_Num.f t332).bind fun t343 => (if t343 = 0 then ((portagelaw0_Num.f t336).bind fun t344 => (if t344 = 0 then ((portagelaw0_SameTexts.f kj4 t303 t311).bind fun t345 => (if t345 = true then ((portagelaw0_SameTexts.f kj4 t315 t323).bind fun t346 => (if t346 = true then ((portagelaw0_SameTexts.f kj4 t331 t335).bind fun t347 => (some t347)) else (none))) else (none))) else (none))) else (none))) else (none))) else (none))) else (none)) = some r := H
                      have A35 := Aside0.mk A350
                      clear A350
                      by_cases c36 : t340 = 0
                      · rw [if_pos c36] at H
                        have c36b0 : (t340 == 0) = true := beq_iff_eq.mpr c36
                        have c36b1 : (t340 != 0) = false := bne_eq_false_iff_eq.mpr c36
                        clear c36
                        replace H := Option.bind_eq_some_iff.mp H
                        obtain ⟨t341, A370, H⟩ := H
                        replace H : (if t341 = 0 then ((portagelaw0_Num.f t324).bind fun t342 => (if t342 = 0 then ((portagelaw0_Num.f t332).bind fun t343 => (if t343 = 0 then ((portagelaw0_Num.f t336).bind fun t344 => (if t344 = 0 then ((portagelaw0_SameTexts.f kj4 t303 t311).bind fun t345 => (if t345 = true then ((portagelaw0_SameTexts.f kj4 t315 t323).bind fun t346 => (if t346 = true then ((portagelaw0_SameTexts.f kj4 t331 t335).bind fun t347 => (some t347)) else (none))) else (none))) else (none))) else (none))) else (none))) else (none)) = some r := H
                        have A37 := Aside0.mk A370
                        clear A370
                        by_cases c38 : t341 = 0
                        · rw [if_pos c38] at H
                          have c38b0 : (t341 == 0) = true := beq_iff_eq.mpr c38
                          have c38b1 : (t341 != 0) = false := bne_eq_false_iff_eq.mpr c38
                          clear c38
                          replace H := Option.bind_eq_some_iff.mp H
                          obtain ⟨t342, A390, H⟩ := H
                          replace H : (if t342 = 0 then ((portagelaw0_Num.f t332).bind fun t343 => (if t343 = 0 then ((portagelaw0_Num.f t336).bind fun t344 => (if t344 = 0 then ((portagelaw0_SameTexts.f kj4 t303 t311).bind fun t345 => (if t345 = true then ((portagelaw0_SameTexts.f kj4 t315 t323).bind fun t346 => (if t346 = true then ((portagelaw0_SameTexts.f kj4 t331 t335).bind fun t347 => (some t347)) else (none))) else (none))) else (none))) else (none))) else (none)) = some r := H
                          have A39 := Aside0.mk A390
                          clear A390
                          by_cases c40 : t342 = 0
                          · rw [if_pos c40] at H
                            have c40b0 : (t342 == 0) = true := beq_iff_eq.mpr c40
                            have c40b1 : (t342 != 0) = false := bne_eq_false_iff_eq.mpr c40
                            clear c40
                            replace H := Option.bind_eq_some_iff.mp H
                            obtain ⟨t343, A410, H⟩ := H
                            replace H : (if t343 = 0 then ((portagelaw0_Num.f t336).bind fun t344 => (if t344 = 0 then ((portagelaw0_SameTexts.f kj4 t303 t311).bind fun t345 => (if t345 = true then ((portagelaw0_SameTexts.f kj4 t315 t323).bind fun t346 => (if t346 = true then ((portagelaw0_SameTexts.f kj4 t331 t335).bind fun t347 => (some t347)) else (none))) else (none))) else (none))) else (none)) = some r := H
                            have A41 := Aside0.mk A410
                            clear A410
                            by_cases c42 : t343 = 0
                            · rw [if_pos c42] at H
                              have c42b0 : (t343 == 0) = true := beq_iff_eq.mpr c42
                              have c42b1 : (t343 != 0) = false := bne_eq_false_iff_eq.mpr c42
                              clear c42
                              replace H := Option.bind_eq_some_iff.mp H
                              obtain ⟨t344, A430, H⟩ := H
                              replace H : (if t344 = 0 then ((portagelaw0_SameTexts.f kj4 t303 t311).bind fun t345 => (if t345 = true then ((portagelaw0_SameTexts.f kj4 t315 t323).bind fun t346 => (if t346 = true then ((portagelaw0_SameTexts.f kj4 t331 t335).bind fun t347 => (some t347)) else (none))) else (none))) else (none)) = some r := H
                              have A43 := Aside0.mk A430
                              clear A430
                              by_cases c44 : t344 = 0
                              · rw [if_pos c44] at H
                                have c44b0 : (t344 == 0) = true := beq_iff_eq.mpr c44
                                have c44b1 : (t344 != 0) = false := bne_eq_false_iff_eq.mpr c44
                                clear c44
                                replace H := Option.bind_eq_some_iff.mp H
                                obtain ⟨t345, A450, H⟩ := H
                                replace H : (if t345 = true then ((portagelaw0_SameTexts.f kj4 t315 t323).bind fun t346 => (if t346 = true then ((portagelaw0_SameTexts.f kj4 t331 t335).bind fun t347 => (some t347)) else (none))) else (none)) = some r := H
                                have A45 := Aside0.mk A450
                                clear A450
                                by_cases c46 : t345 = true
                                · subst c46
                                  have H1 : ((portagelaw0_SameTexts.f kj4 t315 t323).bind fun t346 => (if t346 = true then ((portagelaw0_SameTexts.f kj4 t331 t335).bind fun t347 => (some t347)) else (none))) = some r := by rw [if_pos rfl] at H; exact H
                                  clear H
                                  have H := H1
                                  clear H1
                                  replace H := Option.bind_eq_some_iff.mp H
                                  obtain ⟨t346, A470, H⟩ := H
                                  replace H : (if t346 = true then ((portagelaw0_SameTexts.f kj4 t331 t335).bind fun t347 => (some t347)) else (none)) = some r := H
                                  have A47 := Aside0.mk A470
                                  clear A470
                                  by_cases c48 : t346 = true
                                  · subst c48
                                    have H1 : ((portagelaw0_SameTexts.f kj4 t331 t335).bind fun t347 => (some t347)) = some r := by rw [if_pos rfl] at H; exact H
                                    clear H
                                    have H := H1
                                    clear H1
                                    replace H := Option.bind_eq_some_iff.mp H
                                    obtain ⟨t347, A490, H⟩ := H
                                    replace H : (some t347) = some r := H
                                    have A49 := Aside0.mk A490
                                    clear A490
                                    obtain rfl := Option.some.inj H
                                    obtain ⟨Ao50, co50, eo50⟩ := Kd.R_slice HO_5.out
                                    subst eo50
                                    go_wp2_with (first | ((with_reducible refine gate_callee (f := 22) rfl ?_); refine goesL_ (some 58) rfl rfl Try.func22 (by kernel_rfl) rfl #[] rfl (by (try simp only [List.map_toArray, List.map_cons, List.map_nil]); first | done | rfl | (simp only [List.length_drop, List.length_take]; rfl)) ?_; (with_reducible refine (disk_New.calls  t300 _ A18.out).mono ?_); rintro e w51 ⟨v301, rfl, ho0, hb⟩; refine ⟨_, rfl, ?_⟩; have n0_ := Aside0.mk (Kd.R_below (by (with_reducible repeat (first | apply Kd.R_alloc | apply Kd.R_drewN | apply Kd.R_drew)); exact HO_5.out) hb); have n1_ := Aside0.mk (Kd.R_lower ho0 (below_size (by repeat (first | (with_reducible first | exact HB.out | apply below_alloc | apply pw_below_drewN | apply below_drew1) | exact HB.out)))); have n2_ := Aside0.mk (below_step (by repeat (first | (with_reducible first | exact HB.out | apply below_alloc | apply pw_below_drewN | apply below_drew1) | exact HB.out)) hb); clear HO_5; clear HB; have HO_5 := n0_; have HO302 := n1_; have HB := n2_; clear n0_ n1_ n2_; (try clear hb); (try clear hb2); (try clear hk); (try clear hi); (try clear ho0); obtain ⟨Ao52, co52, eo52⟩ := Kd.R_slice HO302.out; subst eo52) | ((with_reducible refine gate_callee (f := 15) rfl ?_); refine goesL_ (some 63) rfl rfl Try.func15 (by kernel_rfl) rfl #[.slice Ao52 t300.length co52, .slice Ao50 x5_4.length co50, .int .i64 ji20, .int .i64 0] rfl (by (try simp only [List.map_toArray, List.map_cons, List.map_nil]); first | done | (simp only [hji20]; rfl) | rfl | (simp only [List.length_drop, List.length_take]; rfl)) ?_; (with_reducible refine (disk_Run.calls kj4 _ _ t300 _ _ x5_4 ji20 0 t303 t304 _ ?side1 ?side2 ?side3 ?side4 A19.out).mono ?_); (case side1 => repeat (first | exact (Kd.R_reads' HO302.out).2.2 | (with_reducible refine Kd.C_alloc ?_ _) | (with_reducible refine Kd.C_drewN ?_ _) | (with_reducible refine Kd.C_drew ?_))); (case side2 => exact (Kd.R_reads' HO302.out).2.1); (case side3 => repeat (first | exact (Kd.R_reads' HO_5.out).2.2 | (with_reducible refine Kd.C_alloc ?_ _) | (with_reducible refine Kd.C_drewN ?_ _) | (with_reducible refine Kd.C_drew ?_))); (case side4 => exact (Kd.R_reads' HO_5.out).2.1); rintro e w53 ⟨v305, rfl, ho0, hb⟩; refine ⟨_, rfl, ?_⟩; have n0_ := Aside0.mk (Kd.R_below (by (with_reducible repeat (first | apply Kd.R_alloc | apply Kd.R_drewN | apply Kd.R_drew)); exact HO_5.out) hb); have n1_ := Aside0.mk (Kd.R_elder' (by (with_reducible repeat (first | apply Kd.R_alloc | apply Kd.R_drewN | apply Kd.R_drew)); exact HO302.out) (Kd.R_base ho0) hb); have n2_ := Aside0.mk (Kd.R_lower (Kd.R_new' ho0 (Kd.R_lt (by (with_reducible repeat (first | apply Kd.R_alloc | apply Kd.R_drewN | apply Kd.R_drew)); exact HO302.out))) (below_size (by repeat (first | (with_reducible first | exact HB.out | apply below_alloc | apply pw_below_drewN | apply below_drew1) | exact HB.out)))); have n3_ := Aside0.mk (below_step (by repeat (first | (with_reducible first | exact HB.out | apply below_alloc | apply pw_below_drewN | apply below_drew1) | exact HB.out)) hb); clear HO_5; clear HO302; clear HB; have HO_5 := n0_; have HO302 := n1_; have HO306 := n2_; have HB := n3_; clear n0_ n1_ n2_ n3_; (try clear hb); (try clear hb2); (try clear hk); (try clear hi); (try clear ho0); have q54 : ((ji20) : Int) ≤ ((x5_4.length : Int) : Int) := of_decide_eq_true (by first | (with_reducible assumption) | assumption); obtain ⟨i054, hi054, _, hsz54, _⟩ := info_parts info42; have hroom54 : x5_4.length ≤ co50 := (Kd.R_reads' HO_5.out).2.1; have hC54 : Kd.C k42 _ Ao50 x5_4.length x5_4 := (Kd.R_reads' HO_5.out).2.2; have hcut54 := cut_to (P := Try.prog) 23 42 .i64 Try.underlying23 hi054 Ao50 x5_4.length co50 (ji20) (of_decide_eq_true (by first | (with_reducible assumption) | assumption)) q54 hroom54; have hr54 := Kd.C_take (m := ((ji20) : Int).toNat) hC54 (by omega); have hy54 : y307.length = ((ji20) : Int).toNat := (by rw [Ny307.out, List.length_take]; omega); rw [← Ny307.out] at hr54; rw [← hy54] at hcut54; have HR310 := Aside0.mk hr54; have HC310 := Aside0.mk (show y307.length ≤ co50 from by omega); clear hr54 hC54 hroom54 hi054 hsz54; have KY54 := Aside0.mk hy54; clear hy54; have KL54 := Aside0.mk (show ((ji20) : Int).toNat ≤ x5_4.length from by omega); replace q54 := eq_true q54) | ((with_reducible refine gate_callee (f := 15) rfl ?_); refine goesL_ (some 72) rfl rfl Try.func15 (by kernel_rfl) rfl #[.slice Ao52 t300.length co52, .slice Ao50 y307.length co50, .int .i64 ji20, .int .i64 0] rfl (by (try simp only [List.map_toArray, List.map_cons, List.map_nil]); first | done | (simp only [hji20]; rfl) | rfl | (simp only [List.length_drop, List.length_take]; rfl)) ?_; (with_reducible refine (disk_Run.calls kj4 _ _ t300 _ _ y307 ji20 0 t311 t312 _ ?side1 ?side2 ?side3 ?side4 A23.out).mono ?_); (case side1 => repeat (first | exact (Kd.R_reads' HO302.out).2.2 | (with_reducible refine Kd.C_alloc ?_ _) | (with_reducible refine Kd.C_drewN ?_ _) | (with_reducible refine Kd.C_drew ?_))); (case side2 => exact (Kd.R_reads' HO302.out).2.1); (case side3 => repeat (first | exact (by repeat (first | (with_reducible exact HR310.out) | (with_reducible refine Kd.C_alloc ?_ _) | (with_reducible refine Kd.C_drewN ?_ _) | (with_reducible refine Kd.C_drew ?_) | exact HR310.out)) | (with_reducible refine Kd.C_alloc ?_ _) | (with_reducible refine Kd.C_drewN ?_ _) | (with_reducible refine Kd.C_drew ?_))); (case side4 => exact HC310.out); rintro e w55 ⟨v313, rfl, ho0, hb⟩; refine ⟨_, rfl, ?_⟩; have n0_ := Aside0.mk (Kd.R_below (by (with_reducible repeat (first | apply Kd.R_alloc | apply Kd.R_drewN | apply Kd.R_drew)); exact HO_5.out) hb); have n1_ := Aside0.mk (Kd.R_elder' (by (with_reducible repeat (first | apply Kd.R_alloc | apply Kd.R_drewN | apply Kd.R_drew)); exact HO302.out) (Kd.R_base ho0) hb); have n2_ := Aside0.mk (Kd.R_elder' (by (with_reducible repeat (first | apply Kd.R_alloc | apply Kd.R_drewN | apply Kd.R_drew)); exact HO306.out) (Kd.R_base ho0) hb); have n3_ := Aside0.mk (Kd.R_lower (Kd.R_new' (Kd.R_new' ho0 (Kd.R_lt (by (with_reducible repeat (first | apply Kd.R_alloc | apply Kd.R_drewN | apply Kd.R_drew)); exact HO302.out))) (Kd.R_lt (by (with_reducible repeat (first | apply Kd.R_alloc | apply Kd.R_drewN | apply Kd.R_drew)); exact HO306.out))) (below_size (by repeat (first | (with_reducible first | exact HB.out | apply below_alloc | apply pw_below_drewN | apply below_drew1) | exact HB.out)))); have n4_ := Aside0.mk (Kd.C_below (by repeat (first | (with_reducible exact HR310.out) | (with_reducible refine Kd.C_alloc ?_ _) | (with_reducible refine Kd.C_drewN ?_ _) | (with_reducible refine Kd.C_drew ?_) | exact HR310.out)) hb); have n5_ := Aside0.mk (below_step (by repeat (first | (with_reducible first | exact HB.out | apply below_alloc | apply pw_below_drewN | apply below_drew1) | exact HB.out)) hb); clear HO_5; clear HO302; clear HO306; clear HR310; clear HB; have HO_5 := n0_; have HO302 := n1_; have HO306 := n2_; have HO314 := n3_; have HR310 := n4_; have HB := n5_; clear n0_ n1_ n2_ n3_ n4_ n5_; (try clear hb); (try clear hb2); (try clear hk); (try clear hi); (try clear ho0)) | ((with_reducible refine gate_callee (f := 15) rfl ?_); refine goesL_ (some 79) rfl rfl Try.func15 (by kernel_rfl) rfl #[.slice Ao52 t300.length co52, .slice Ao50 x5_4.length co50, .int .i64 ji20, .int .i64 64] rfl (by (try simp only [List.map_toArray, List.map_cons, List.map_nil]); first | done | (simp only [hji20]; rfl) | rfl | (simp only [List.length_drop, List.length_take]; rfl)) ?_; (with_reducible refine (disk_Run.calls kj4 _ _ t300 _ _ x5_4 ji20 64 t315 t316 _ ?side1 ?side2 ?side3 ?side4 A24.out).mono ?_); (case side1 => repeat (first | exact (Kd.R_reads' HO302.out).2.2 | (with_reducible refine Kd.C_alloc ?_ _) | (with_reducible refine Kd.C_drewN ?_ _) | (with_reducible refine Kd.C_drew ?_))); (case side2 => exact (Kd.R_reads' HO302.out).2.1); (case side3 => repeat (first | exact (Kd.R_reads' HO_5.out).2.2 | (with_reducible refine Kd.C_alloc ?_ _) | (with_reducible refine Kd.C_drewN ?_ _) | (with_reducible refine Kd.C_drew ?_))); (case side4 => exact (Kd.R_reads' HO_5.out).2.1); rintro e w56 ⟨v317, rfl, ho0, hb⟩; refine ⟨_, rfl, ?_⟩; have n0_ := Aside0.mk (Kd.R_below (by (with_reducible repeat (first | apply Kd.R_alloc | apply Kd.R_drewN | apply Kd.R_drew)); exact HO_5.out) hb); have n1_ := Aside0.mk (Kd.R_elder' (by (with_reducible repeat (first | apply Kd.R_alloc | apply Kd.R_drewN | apply Kd.R_drew)); exact HO302.out) (Kd.R_base ho0) hb); have n2_ := Aside0.mk (Kd.R_elder' (by (with_reducible repeat (first | apply Kd.R_alloc | apply Kd.R_drewN | apply Kd.R_drew)); exact HO306.out) (Kd.R_base ho0) hb); have n3_ := Aside0.mk (Kd.R_elder' (by (with_reducible repeat (first | apply Kd.R_alloc | apply Kd.R_drewN | apply Kd.R_drew)); exact HO314.out) (Kd.R_base ho0) hb); have n4_ := Aside0.mk (Kd.R_lower (Kd.R_new' (Kd.R_new' (Kd.R_new' ho0 (Kd.R_lt (by (with_reducible repeat (first | apply Kd.R_alloc | apply Kd.R_drewN | apply Kd.R_drew)); exact HO302.out))) (Kd.R_lt (by (with_reducible repeat (first | apply Kd.R_alloc | apply Kd.R_drewN | apply Kd.R_drew)); exact HO306.out))) (Kd.R_lt (by (with_reducible repeat (first | apply Kd.R_alloc | apply Kd.R_drewN | apply Kd.R_drew)); exact HO314.out))) (below_size (by repeat (first | (with_reducible first | exact HB.out | apply below_alloc | apply pw_below_drewN | apply below_drew1) | exact HB.out)))); have n5_ := Aside0.mk (Kd.C_below (by repeat (first | (with_reducible exact HR310.out) | (with_reducible refine Kd.C_alloc ?_ _) | (with_reducible refine Kd.C_drewN ?_ _) | (with_reducible refine Kd.C_drew ?_) | exact HR310.out)) hb); have n6_ := Aside0.mk (below_step (by repeat (first | (with_reducible first | exact HB.out | apply below_alloc | apply pw_below_drewN | apply below_drew1) | exact HB.out)) hb); clear HO_5; clear HO302; clear HO306; clear HO314; clear HR310; clear HB; have HO_5 := n0_; have HO302 := n1_; have HO306 := n2_; have HO314 := n3_; have HO318 := n4_; have HR310 := n5_; have HB := n6_; clear n0_ n1_ n2_ n3_ n4_ n5_ n6_; (try clear hb); (try clear hb2); (try clear hk); (try clear hi); (try clear ho0); have q57 : ((ji25) : Int) ≤ ((x5_4.length : Int) : Int) := of_decide_eq_true (by first | (with_reducible assumption) | assumption); obtain ⟨i057, hi057, _, hsz57, _⟩ := info_parts info42; have hroom57 : x5_4.length ≤ co50 := (Kd.R_reads' HO_5.out).2.1; have hC57 : Kd.C k42 _ Ao50 x5_4.length x5_4 := (Kd.R_reads' HO_5.out).2.2; have hcut57 := cut_to (P := Try.prog) 23 42 .i64 Try.underlying23 hi057 Ao50 x5_4.length co50 (ji25) (of_decide_eq_true (by first | (with_reducible assumption) | assumption)) q57 hroom57; have hr57 := Kd.C_take (m := ((ji25) : Int).toNat) hC57 (by omega); have hy57 : y319.length = ((ji25) : Int).toNat := (by rw [Ny319.out, List.length_take]; omega); rw [← Ny319.out] at hr57; rw [← hy57] at hcut57; have HR322 := Aside0.mk hr57; have HC322 := Aside0.mk (show y319.length ≤ co50 from by omega); clear hr57 hC57 hroom57 hi057 hsz57; have KY57 := Aside0.mk hy57; clear hy57; have KL57 := Aside0.mk (show ((ji25) : Int).toNat ≤ x5_4.length from by omega); replace q57 := eq_true q57) | ((with_reducible refine gate_callee (f := 15) rfl ?_); refine goesL_ (some 90) rfl rfl Try.func15 (by kernel_rfl) rfl #[.slice Ao52 t300.length co52, .slice Ao50 y319.length co50, .int .i64 ji25, .int .i64 0] rfl (by (try simp only [List.map_toArray, List.map_cons, List.map_nil]); first | done | (simp only [hji25]; rfl) | rfl | (simp only [List.length_drop, List.length_take]; rfl)) ?_; (with_reducible refine (disk_Run.calls kj4 _ _ t300 _ _ y319 ji25 0 t323 t324 _ ?side1 ?side2 ?side3 ?side4 A28.out).mono ?_); (case side1 => repeat (first | exact (Kd.R_reads' HO302.out).2.2 | (with_reducible refine Kd.C_alloc ?_ _) | (with_reducible refine Kd.C_drewN ?_ _) | (with_reducible refine Kd.C_drew ?_))); (case side2 => exact (Kd.R_reads' HO302.out).2.1); (case side3 => repeat (first | exact (by repeat (first | (with_reducible exact HR322.out) | (with_reducible refine Kd.C_alloc ?_ _) | (with_reducible refine Kd.C_drewN ?_ _) | (with_reducible refine Kd.C_drew ?_) | exact HR322.out)) | (with_reducible refine Kd.C_alloc ?_ _) | (with_reducible refine Kd.C_drewN ?_ _) | (with_reducible refine Kd.C_drew ?_))); (case side4 => exact HC322.out); rintro e w58 ⟨v325, rfl, ho0, hb⟩; refine ⟨_, rfl, ?_⟩; have n0_ := Aside0.mk (Kd.R_below (by (with_reducible repeat (first | apply Kd.R_alloc | apply Kd.R_drewN | apply Kd.R_drew)); exact HO_5.out) hb); have n1_ := Aside0.mk (Kd.R_elder' (by (with_reducible repeat (first | apply Kd.R_alloc | apply Kd.R_drewN | apply Kd.R_drew)); exact HO302.out) (Kd.R_base ho0) hb); have n2_ := Aside0.mk (Kd.R_elder' (by (with_reducible repeat (first | apply Kd.R_alloc | apply Kd.R_drewN | apply Kd.R_drew)); exact HO306.out) (Kd.R_base ho0) hb); have n3_ := Aside0.mk (Kd.R_elder' (by (with_reducible repeat (first | apply Kd.R_alloc | apply Kd.R_drewN | apply Kd.R_drew)); exact HO314.out) (Kd.R_base ho0) hb); have n4_ := Aside0.mk (Kd.R_elder' (by (with_reducible repeat (first | apply Kd.R_alloc | apply Kd.R_drewN | apply Kd.R_drew)); exact HO318.out) (Kd.R_base ho0) hb); have n5_ := Aside0.mk (Kd.R_lower (Kd.R_new' (Kd.R_new' (Kd.R_new' (Kd.R_new' ho0 (Kd.R_lt (by (with_reducible repeat (first | apply Kd.R_alloc | apply Kd.R_drewN | apply Kd.R_drew)); exact HO302.out))) (Kd.R_lt (by (with_reducible repeat (first | apply Kd.R_alloc | apply Kd.R_drewN | apply Kd.R_drew)); exact HO306.out))) (Kd.R_lt (by (with_reducible repeat (first | apply Kd.R_alloc | apply Kd.R_drewN | apply Kd.R_drew)); exact HO314.out))) (Kd.R_lt (by (with_reducible repeat (first | apply Kd.R_alloc | apply Kd.R_drewN | apply Kd.R_drew)); exact HO318.out))) (below_size (by repeat (first | (with_reducible first | exact HB.out | apply below_alloc | apply pw_below_drewN | apply below_drew1) | exact HB.out)))); have n6_ := Aside0.mk (Kd.C_below (by repeat (first | (with_reducible exact HR310.out) | (with_reducible refine Kd.C_alloc ?_ _) | (with_reducible refine Kd.C_drewN ?_ _) | (with_reducible refine Kd.C_drew ?_) | exact HR310.out)) hb); have n7_ := Aside0.mk (Kd.C_below (by repeat (first | (with_reducible exact HR322.out) | (with_reducible refine Kd.C_alloc ?_ _) | (with_reducible refine Kd.C_drewN ?_ _) | (with_reducible refine Kd.C_drew ?_) | exact HR322.out)) hb); have n8_ := Aside0.mk (below_step (by repeat (first | (with_reducible first | exact HB.out | apply below_alloc | apply pw_below_drewN | apply below_drew1) | exact HB.out)) hb); clear HO_5; clear HO302; clear HO306; clear HO314; clear HO318; clear HR310; clear HR322; clear HB; have HO_5 := n0_; have HO302 := n1_; have HO306 := n2_; have HO314 := n3_; have HO318 := n4_; have HO326 := n5_; have HR310 := n6_; have HR322 := n7_; have HB := n8_; clear n0_ n1_ n2_ n3_ n4_ n5_ n6_ n7_ n8_; (try clear hb); (try clear hb2); (try clear hk); (try clear hi); (try clear ho0); have q59 : ((ji20) : Int) ≤ ((x5_4.length : Int) : Int) := of_decide_eq_true (by first | (with_reducible assumption) | assumption); obtain ⟨i059, hi059, _, hsz59, _⟩ := info_parts info42; have hroom59 : x5_4.length ≤ co50 := (Kd.R_reads' HO_5.out).2.1; have hC59 : Kd.C k42 _ Ao50 x5_4.length x5_4 := (Kd.R_reads' HO_5.out).2.2; have q059 : (0 : Int) ≤ ((ji20) : Int) := of_decide_eq_true (by first | (with_reducible assumption) | assumption); have hcut59 := cut_from (P := Try.prog) 23 42 .i64 Try.underlying23 hi059 2 hsz59 Ao50 x5_4.length co50 (ji20) q059 q59; have hr59 := Kd.C_drop (m := ((ji20) : Int).toNat) (c := co50) hC59 (by omega) hroom59; obtain ⟨A59, hA59⟩ : ∃ A1, A1 = (if co50 = ((ji20) : Int).toNat then Ao50 else (Ao50 : Option Addr).map (·.add (((ji20) : Int).toNat * 2))) := ⟨_, rfl⟩; obtain ⟨c59, hc59⟩ : ∃ c1, c1 = co50 - ((ji20) : Int).toNat := ⟨_, rfl⟩; have hy59 : y327.length = x5_4.length - ((ji20) : Int).toNat := (by rw [Ny327.out, List.length_drop] <;> omega); rw [show (x5_4).drop ((ji20) : Int).toNat = y327 from Ny327.out.symm] at hr59; replace hr59 : Kd.C k42 _ A59 y327.length y327 := (by rw [hA59]; exact hr59); rw [← hy59, ← hA59, ← hc59] at hcut59; have HR330 := Aside0.mk hr59; have HC330 := Aside0.mk (show y327.length ≤ c59 from by rw [hy59, hc59]; exact Nat.sub_le_sub_right hroom59 _); clear hr59 hC59 hroom59 hi059 hsz59 hc59; have KY59 := Aside0.mk hy59; have KA59 := Aside0.mk hA59; clear hy59 hA59; have KL59 := Aside0.mk (show ((ji20) : Int).toNat ≤ x5_4.length from by omega); replace q59 := eq_true q59; obtain ⟨Ao60, co60, eo60⟩ := Kd.R_slice HO314.out; subst eo60) | ((with_reducible refine gate_callee (f := 15) rfl ?_); refine goesL_ (some 102) rfl rfl Try.func15 (by kernel_rfl) rfl #[.slice Ao60 t311.length co60, .slice A59 y327.length c59, .int .i64 (wrap64 ((x5_4.length : Int) - (ji20))), .int .i64 0] rfl (by (try simp only [List.map_toArray, List.map_cons, List.map_nil]); first | done | (simp only [hji20]; rfl) | rfl | (simp only [List.length_drop, List.length_take]; rfl)) ?_; (with_reducible refine (disk_Run.calls kj4 _ _ t311 _ _ y327 (wrap64 ((x5_4.length : Int) - (ji20))) 0 t331 t332 _ ?side1 ?side2 ?side3 ?side4 A31.out).mono ?_); (case side1 => repeat (first | exact (Kd.R_reads' HO314.out).2.2 | (with_reducible refine Kd.C_alloc ?_ _) | (with_reducible refine Kd.C_drewN ?_ _) | (with_reducible refine Kd.C_drew ?_))); (case side2 => exact (Kd.R_reads' HO314.out).2.1); (case side3 => repeat (first | exact (by repeat (first | (with_reducible exact HR330.out) | (with_reducible refine Kd.C_alloc ?_ _) | (with_reducible refine Kd.C_drewN ?_ _) | (with_reducible refine Kd.C_drew ?_) | exact HR330.out)) | (with_reducible refine Kd.C_alloc ?_ _) | (with_reducible refine Kd.C_drewN ?_ _) | (with_reducible refine Kd.C_drew ?_))); (case side4 => exact HC330.out); rintro e w61 ⟨v333, rfl, ho0, hb⟩; refine ⟨_, rfl, ?_⟩; have n0_ := Aside0.mk (Kd.R_below (by (with_reducible repeat (first | apply Kd.R_alloc | apply Kd.R_drewN | apply Kd.R_drew)); exact HO_5.out) hb); have n1_ := Aside0.mk (Kd.R_elder' (by (with_reducible repeat (first | apply Kd.R_alloc | apply Kd.R_drewN | apply Kd.R_drew)); exact HO302.out) (Kd.R_base ho0) hb); have n2_ := Aside0.mk (Kd.R_elder' (by (with_reducible repeat (first | apply Kd.R_alloc | apply Kd.R_drewN | apply Kd.R_drew)); exact HO306.out) (Kd.R_base ho0) hb); have n3_ := Aside0.mk (Kd.R_elder' (by (with_reducible repeat (first | apply Kd.R_alloc | apply Kd.R_drewN | apply Kd.R_drew)); exact HO314.out) (Kd.R_base ho0) hb); have n4_ := Aside0.mk (Kd.R_elder' (by (with_reducible repeat (first | apply Kd.R_alloc | apply Kd.R_drewN | apply Kd.R_drew)); exact HO318.out) (Kd.R_base ho0) hb); have n5_ := Aside0.mk (Kd.R_elder' (by (with_reducible repeat (first | apply Kd.R_alloc | apply Kd.R_drewN | apply Kd.R_drew)); exact HO326.out) (Kd.R_base ho0) hb); have n6_ := Aside0.mk (Kd.R_lower (Kd.R_new' (Kd.R_new' (Kd.R_new' (Kd.R_new' (Kd.R_new' ho0 (Kd.R_lt (by (with_reducible repeat (first | apply Kd.R_alloc | apply Kd.R_drewN | apply Kd.R_drew)); exact HO302.out))) (Kd.R_lt (by (with_reducible repeat (first | apply Kd.R_alloc | apply Kd.R_drewN | apply Kd.R_drew)); exact HO306.out))) (Kd.R_lt (by (with_reducible repeat (first | apply Kd.R_alloc | apply Kd.R_drewN | apply Kd.R_drew)); exact HO314.out))) (Kd.R_lt (by (with_reducible repeat (first | apply Kd.R_alloc | apply Kd.R_drewN | apply Kd.R_drew)); exact HO318.out))) (Kd.R_lt (by (with_reducible repeat (first | apply Kd.R_alloc | apply Kd.R_drewN | apply Kd.R_drew)); exact HO326.out))) (below_size (by repeat (first | (with_reducible first | exact HB.out | apply below_alloc | apply pw_below_drewN | apply below_drew1) | exact HB.out)))); have n7_ := Aside0.mk (Kd.C_below (by repeat (first | (with_reducible exact HR310.out) | (with_reducible refine Kd.C_alloc ?_ _) | (with_reducible refine Kd.C_drewN ?_ _) | (with_reducible refine Kd.C_drew ?_) | exact HR310.out)) hb); have n8_ := Aside0.mk (Kd.C_below (by repeat (first | (with_reducible exact HR322.out) | (with_reducible refine Kd.C_alloc ?_ _) | (with_reducible refine Kd.C_drewN ?_ _) | (with_reducible refine Kd.C_drew ?_) | exact HR322.out)) hb); have n9_ := Aside0.mk (Kd.C_below (by repeat (first | (with_reducible exact HR330.out) | (with_reducible refine Kd.C_alloc ?_ _) | (with_reducible refine Kd.C_drewN ?_ _) | (with_reducible refine Kd.C_drew ?_) | exact HR330.out)) hb); have n10_ := Aside0.mk (below_step (by repeat (first | (with_reducible first | exact HB.out | apply below_alloc | apply pw_below_drewN | apply below_drew1) | exact HB.out)) hb); clear HO_5; clear HO302; clear HO306; clear HO314; clear HO318; clear HO326; clear HR310; clear HR322; clear HR330; clear HB; have HO_5 := n0_; have HO302 := n1_; have HO306 := n2_; have HO314 := n3_; have HO318 := n4_; have HO326 := n5_; have HO334 := n6_; have HR310 := n7_; have HR322 := n8_; have HR330 := n9_; have HB := n10_; clear n0_ n1_ n2_ n3_ n4_ n5_ n6_ n7_ n8_ n9_ n10_; (try clear hb); (try clear hb2); (try clear hk); (try clear hi); (try clear ho0)) | ((with_reducible refine gate_callee (f := 15) rfl ?_); refine goesL_ (some 110) rfl rfl Try.func15 (by kernel_rfl) rfl #[.slice Ao52 t300.length co52, .slice Ao50 x5_4.length co50, .int .i64 (x5_4.length : Int), .int .i64 0] rfl (by (try simp only [List.map_toArray, List.map_cons, List.map_nil]); first | done | rfl | (simp only [List.length_drop, List.length_take]; rfl)) ?_; (with_reducible refine (disk_Run.calls kj4 _ _ t300 _ _ x5_4 (x5_4.length : Int) 0 t335 t336 _ ?side1 ?side2 ?side3 ?side4 A32.out).mono ?_); (case side1 => repeat (first | exact (Kd.R_reads' HO302.out).2.2 | (with_reducible refine Kd.C_alloc ?_ _) | (with_reducible refine Kd.C_drewN ?_ _) | (with_reducible refine Kd.C_drew ?_))); (case side2 => exact (Kd.R_reads' HO302.out).2.1); (case side3 => repeat (first | exact (Kd.R_reads' HO_5.out).2.2 | (with_reducible refine Kd.C_alloc ?_ _) | (with_reducible refine Kd.C_drewN ?_ _) | (with_reducible refine Kd.C_drew ?_))); (case side4 => exact (Kd.R_reads' HO_5.out).2.1); rintro e w62 ⟨v337, rfl, ho0, hb⟩; refine ⟨_, rfl, ?_⟩; have n0_ := Aside0.mk (Kd.R_below (by (with_reducible repeat (first | apply Kd.R_alloc | apply Kd.R_drewN | apply Kd.R_drew)); exact HO_5.out) hb); have n1_ := Aside0.mk (Kd.R_elder' (by (with_reducible repeat (first | apply Kd.R_alloc | apply Kd.R_drewN | apply Kd.R_drew)); exact HO302.out) (Kd.R_base ho0) hb); have n2_ := Aside0.mk (Kd.R_elder' (by (with_reducible repeat (first | apply Kd.R_alloc | apply Kd.R_drewN | apply Kd.R_drew)); exact HO306.out) (Kd.R_base ho0) hb); have n3_ := Aside0.mk (Kd.R_elder' (by (with_reducible repeat (first | apply Kd.R_alloc | apply Kd.R_drewN | apply Kd.R_drew)); exact HO314.out) (Kd.R_base ho0) hb); have n4_ := Aside0.mk (Kd.R_elder' (by (with_reducible repeat (first | apply Kd.R_alloc | apply Kd.R_drewN | apply Kd.R_drew)); exact HO318.out) (Kd.R_base ho0) hb); have n5_ := Aside0.mk (Kd.R_elder' (by (with_reducible repeat (first | apply Kd.R_alloc | apply Kd.R_drewN | apply Kd.R_drew)); exact HO326.out) (Kd.R_base ho0) hb); have n6_ := Aside0.mk (Kd.R_elder' (by (with_reducible repeat (first | apply Kd.R_alloc | apply Kd.R_drewN | apply Kd.R_drew)); exact HO334.out) (Kd.R_base ho0) hb); have n7_ := Aside0.mk (Kd.R_lower (Kd.R_new' (Kd.R_new' (Kd.R_new' (Kd.R_new' (Kd.R_new' (Kd.R_new' ho0 (Kd.R_lt (by (with_reducible repeat (first | apply Kd.R_alloc | apply Kd.R_drewN | apply Kd.R_drew)); exact HO302.out))) (Kd.R_lt (by (with_reducible repeat (first | apply Kd.R_alloc | apply Kd.R_drewN | apply Kd.R_drew)); exact HO306.out))) (Kd.R_lt (by (with_reducible repeat (first | apply Kd.R_alloc | apply Kd.R_drewN | apply Kd.R_drew)); exact HO314.out))) (Kd.R_lt (by (with_reducible repeat (first | apply Kd.R_alloc | apply Kd.R_drewN | apply Kd.R_drew)); exact HO318.out))) (Kd.R_lt (by (with_reducible repeat (first | apply Kd.R_alloc | apply Kd.R_drewN | apply Kd.R_drew)); exact HO326.out))) (Kd.R_lt (by (with_reducible repeat (first | apply Kd.R_alloc | apply Kd.R_drewN | apply Kd.R_drew)); exact HO334.out))) (below_size (by repeat (first | (with_reducible first | exact HB.out | apply below_alloc | apply pw_below_drewN | apply below_drew1) | exact HB.out)))); have n8_ := Aside0.mk (Kd.C_below (by repeat (first | (with_reducible exact HR310.out) | (with_reducible refine Kd.C_alloc ?_ _) | (with_reducible refine Kd.C_drewN ?_ _) | (with_reducible refine Kd.C_drew ?_) | exact HR310.out)) hb); have n9_ := Aside0.mk (Kd.C_below (by repeat (first | (with_reducible exact HR322.out) | (with_reducible refine Kd.C_alloc ?_ _) | (with_reducible refine Kd.C_drewN ?_ _) | (with_reducible refine Kd.C_drew ?_) | exact HR322.out)) hb); have n10_ := Aside0.mk (Kd.C_below (by repeat (first | (with_reducible exact HR330.out) | (with_reducible refine Kd.C_alloc ?_ _) | (with_reducible refine Kd.C_drewN ?_ _) | (with_reducible refine Kd.C_drew ?_) | exact HR330.out)) hb); have n11_ := Aside0.mk (below_step (by repeat (first | (with_reducible first | exact HB.out | apply below_alloc | apply pw_below_drewN | apply below_drew1) | exact HB.out)) hb); clear HO_5; clear HO302; clear HO306; clear HO314; clear HO318; clear HO326; clear HO334; clear HR310; clear HR322; clear HR330; clear HB; have HO_5 := n0_; have HO302 := n1_; have HO306 := n2_; have HO314 := n3_; have HO318 := n4_; have HO326 := n5_; have HO334 := n6_; have HO338 := n7_; have HR310 := n8_; have HR322 := n9_; have HR330 := n10_; have HB := n11_; clear n0_ n1_ n2_ n3_ n4_ n5_ n6_ n7_ n8_ n9_ n10_ n11_; (try clear hb); (try clear hb2); (try clear hk); (try clear hi); (try clear ho0)) | ((with_reducible refine gate_callee (f := 18) rfl ?_); refine goesL_ (some 114) rfl rfl Try.func18 (by kernel_rfl) rfl #[.int .i64 t304] rfl (by (try simp only [List.map_toArray, List.map_cons, List.map_nil]); first | done | rfl | (simp only [List.length_drop, List.length_take]; rfl)) ?_; (with_reducible refine (portagelaw0_Num.calls t304 t339 _ A33.out).mono ?_); rintro e w' ⟨rfl, ⟨nd, rfl⟩⟩; refine ⟨_, rfl, ?_⟩) | (go_at_call 18; (with_reducible refine (portagelaw0_Num.calls t312 t340 _ A35.out).mono ?_); rintro e w' ⟨rfl, ⟨nd, rfl⟩⟩) | (go_at_call 18; (with_reducible refine (portagelaw0_Num.calls t316 t341 _ A37.out).mono ?_); rintro e w' ⟨rfl, ⟨nd, rfl⟩⟩) | (go_at_call 18; (with_reducible refine (portagelaw0_Num.calls t324 t342 _ A39.out).mono ?_); rintro e w' ⟨rfl, ⟨nd, rfl⟩⟩) | (go_at_call 18; (with_reducible refine (portagelaw0_Num.calls t332 t343 _ A41.out).mono ?_); rintro e w' ⟨rfl, ⟨nd, rfl⟩⟩) | (go_at_call 18; (with_reducible refine (portagelaw0_Num.calls t336 t344 _ A43.out).mono ?_); rintro e w' ⟨rfl, ⟨nd, rfl⟩⟩; obtain ⟨Ao63, co63, eo63⟩ := Kd.R_slice HO306.out; subst eo63) | (go_at_call 17; (with_reducible refine (portagelaw0_SameTexts.calls kj4 _ _ t303 _ _ t311 true _ ?side1 ?side2 ?side3 ?side4 A45.out).mono ?_); (case side1 => repeat (first | exact (Kd.R_reads' HO306.out).2.2 | (with_reducible refine Kd.C_alloc ?_ _) | (with_reducible refine Kd.C_drewN ?_ _) | (with_reducible refine Kd.C_drew ?_))); (case side2 => exact (Kd.R_reads' HO306.out).2.1); (case side3 => repeat (first | exact (Kd.R_reads' HO314.out).2.2 | (with_reducible refine Kd.C_alloc ?_ _) | (with_reducible refine Kd.C_drewN ?_ _) | (with_reducible refine Kd.C_drew ?_))); (case side4 => exact (Kd.R_reads' HO314.out).2.1); rintro e w' ⟨rfl, ⟨nd, rfl⟩⟩; obtain ⟨Ao64, co64, eo64⟩ := Kd.R_slice HO318.out; subst eo64; obtain ⟨Ao65, co65, eo65⟩ := Kd.R_slice HO326.out; subst eo65) | (go_at_call 17; (with_reducible refine (portagelaw0_SameTexts.calls kj4 _ _ t315 _ _ t323 true _ ?side1 ?side2 ?side3 ?side4 A47.out).mono ?_); (case side1 => repeat (first | exact (Kd.R_reads' HO318.out).2.2 | (with_reducible refine Kd.C_alloc ?_ _) | (with_reducible refine Kd.C_drewN ?_ _) | (with_reducible refine Kd.C_drew ?_))); (case side2 => exact (Kd.R_reads' HO318.out).2.1); (case side3 => repeat (first | exact (Kd.R_reads' HO326.out).2.2 | (with_reducible refine Kd.C_alloc ?_ _) | (with_reducible refine Kd.C_drewN ?_ _) | (with_reducible refine Kd.C_drew ?_))); (case side4 => exact (Kd.R_reads' HO326.out).2.1); rintro e w' ⟨rfl, ⟨nd, rfl⟩⟩; obtain ⟨Ao66, co66, eo66⟩ := Kd.R_slice HO334.out; subst eo66; obtain ⟨Ao67, co67, eo67⟩ := Kd.R_slice HO338.out; subst eo67) | (go_at_call 17; (with_reducible refine (portagelaw0_SameTexts.calls kj4 _ _ t331 _ _ t335 t347 _ ?side1 ?side2 ?side3 ?side4 A49.out).mono ?_); (case side1 => repeat (first | exact (Kd.R_reads' HO334.out).2.2 | (with_reducible refine Kd.C_alloc ?_ _) | (with_reducible refine Kd.C_drewN ?_ _) | (with_reducible refine Kd.C_drew ?_))); (case side2 => exact (Kd.R_reads' HO334.out).2.1); (case side3 => repeat (first | exact (Kd.R_reads' HO338.out).2.2 | (with_reducible refine Kd.C_alloc ?_ _) | (with_reducible refine Kd.C_drewN ?_ _) | (with_reducible refine Kd.C_drew ?_))); (case side4 => exact (Kd.R_reads' HO338.out).2.1); rintro e w' ⟨rfl, ⟨nd, rfl⟩⟩))
                                    go_ret
                                    exact ⟨by first | rfl | (simp [errW_none, errW_some] <;> rfl) | (simp only [← hji20, ← hji25]; first | rfl | (simp [errW_none, errW_some] <;> rfl)) | (simp [*, errW_none, errW_some] <;> rfl), by repeat (first | (with_reducible first | exact HB.out | apply below_alloc | apply pw_below_drewN | apply below_drew1) | exact HB.out)⟩
                                  · replace c48 := Bool.eq_false_iff.mpr c48
                                    subst c48
                                    have H1 : (none) = some r := by rw [if_neg (show ¬ (false = true) by decide)] at H; exact H
                                    clear H
                                    have H := H1
                                    clear H1
                                    exact absurd H (by simp)
                                · replace c46 := Bool.eq_false_iff.mpr c46
                                  subst c46
                                  have H1 : (none) = some r := by rw [if_neg (show ¬ (false = true) by decide)] at H; exact H
                                  clear H
                                  have H := H1
                                  clear H1
                                  exact absurd H (by simp)
                              · rw [if_neg c44] at H
                                exact absurd H (by simp)
                            · rw [if_neg c42] at H
                              exact absurd H (by simp)
                          · rw [if_neg c40] at H
                            exact absurd H (by simp)
                        · rw [if_neg c38] at H
                          exact absurd H (by simp)
                      · rw [if_neg c36] at H
                        exact absurd H (by simp)
                    · rw [if_neg c34] at H
                      exact absurd H (by simp)
                  · rw [if_neg c27] at H
                    exact absurd H (by simp)
                · rw [if_neg c26] at H
                  exact absurd H (by simp)
              · rw [if_neg c22] at H
                exact absurd H (by simp)
            · rw [if_neg c21] at H
              exact absurd H (by simp)
  · replace c4 := Bool.eq_false_iff.mpr c4
    subst c4
    have H1 : (none) = some r := by rw [if_neg (show ¬ (false = true) by decide)] at H; exact H
    clear H
    have H := H1
    clear H1
    exact absurd H (by simp)

/-- THE ONE PURE STATEMENT of portagelaw17_DiskTorn: yours. -/
def portagelaw17_DiskTorn.Pure : Prop := ∀ (l0 : List Int) (a1 : Int), l0.length ≤ maxLen → l0.length * 8 ≤ 140737488351232 → (∀ x ∈ l0, (Lit.int .i64 x).wf = true) → (Lit.int .i64 a1).wf = true → ∃ k, portagelaw17_DiskTorn.f k l0 a1 = some true
theorem portagelaw17_DiskTorn.walk (P : portagelaw17_DiskTorn.Pure) (a0 : Option Addr) (len0 cap0 : Nat) (z0 : List Int) (a1 : Int) (w : World) (w0 : (a0 = none ∧ len0 = 0 ∧ cap0 = 0 ∧ z0 = []) ∨ ∃ x, a0 = some x ∧ len0 ≤ cap0 ∧ cap0 ≤ maxLen ∧ z0.length = cap0 ∧ (∀ i, i < z0.length → w.cell? (x.add i) = some (.int .i64 (z0.getD i 0))) ∧ ∀ n ∈ z0, (Lit.int .i64 n).wf = true) (y0 : len0 * 8 ≤ 140737488351232) (w1 : (Lit.int .i64 a1).wf = true) :
    Calls Try.prog 6 #[.slice a0 len0 cap0, .int .i64 a1] w fun e w' => e = .returned (.bool true) ∧ Below w.heap.size w w' := by
  obtain ⟨l0, rfl, hr0, hm0, hw0, hc0⟩ := ReadsInt.ofRowC w0
  obtain ⟨k, h⟩ := P l0 a1 hm0 y0 hw0 w1
  refine (portagelaw17_DiskTorn.calls k _ _ l0 a1 true w (Kd.C_of_reads (d := (0 : Int)) (h1 := fun _ => rfl) hr0) hc0 h).mono ?_
  rintro e w' ⟨rfl, hd⟩
  exact ⟨rfl, hd⟩

end Go.Proofs.Ytdccnjinehcenaa.D
