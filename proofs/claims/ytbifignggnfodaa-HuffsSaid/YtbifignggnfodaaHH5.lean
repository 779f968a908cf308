-- Written by a program of this session out of the translation (a changed copy of the kit's printer).
import Derived.Test.YtbifignggnfodaaHH0
import Derived.Test.YtbifignggnfodaaHH3
import Derived.Test.YtbifignggnfodaaHH4
namespace Go.Proofs.Ytbifignggnfodaa.HH
open Go.RowKit Go.Proofs.YtbifignggnfodaaW.PrintWords Go.Proofs.YtbifignggnfodaaW.PrintLast Go.Proofs.YtbifignggnfodaaW.PrintMore
attribute [local go_sem] max2_int min2_int max_two min_two max_three min_three max_four min_four   -- for this text's walks alone
set_option linter.unusedVariables false
set_option linter.unusedSimpArgs false

/-! ### portageref1_Codes: function 25 -/
mutual
def portageref1_Codes.j0 : Nat → List Int → Int → Bool → Option ((List (S43)) × Int)
  | 0, _, _, _ => none
  | k + 1, x0, x4, x16 => if x16 = true then (some (([] : List (S43)), x4)) else (if 0 ≤ (x0.length : Int) then (if ((x0.length : Int) : Int).toNat ≤ 17592186044416 then (portageref1_Codes.l0 k x0 (List.replicate ((x0.length : Int) : Int).toNat z43) 0 1) else (none)) else (none))
def portageref1_Codes.l0 : Nat → List Int → List (S43) → Int → Int → Option ((List (S43)) × Int)
  | 0, _, _, _, _ => none
  | k + 1, x0, x5, x6, x7 => if x7 ≤ 15 then (portageref1_Codes.l1 k x0 x5 (wrap64 (2 * x6)) x7 0) else (some (x5, 0))
def portageref1_Codes.l1 : Nat → List Int → List (S43) → Int → Int → Int → Option ((List (S43)) × Int)
  | 0, _, _, _, _, _ => none
  | k + 1, x0, x5, x6, x7, x8 => if x8 < (x0.length : Int) then (if 0 ≤ x8 then (if (rd x0 x8) = x7 then (if x8 < (x5.length : Int) then (portageref1_Codes.l1 k x0 (x5.set (x8 : Int).toNat (⟨x7, x6⟩ : S43)) (wrap64 (x6 + 1)) x7 (wrap64 (x8 + 1))) else (none)) else (portageref1_Codes.l1 k x0 x5 x6 x7 (wrap64 (x8 + 1)))) else (none)) else (portageref1_Codes.l0 k x0 x5 x6 (wrap64 (x7 + 1)))
end
def portageref1_Codes.f (k : Nat) (l0 : List Int) : Option ((List (S43)) × Int) := (portageref1_Check.f k l0).bind fun t129 => (if t129 = 0 then (portageref1_Codes.j0 k l0 t129 false) else (portageref1_Codes.j0 k l0 t129 (t129 != 302)))
theorem portageref1_Codes.mono_l : ∀ k, (∀ y0 y1 y2, LeO (portageref1_Codes.j0 k y0 y1 y2) (portageref1_Codes.j0 (k + 1) y0 y1 y2)) ∧ (∀ y0 y1 y2 y3, LeO (portageref1_Codes.l0 k y0 y1 y2 y3) (portageref1_Codes.l0 (k + 1) y0 y1 y2 y3)) ∧ (∀ y0 y1 y2 y3 y4, LeO (portageref1_Codes.l1 k y0 y1 y2 y3 y4) (portageref1_Codes.l1 (k + 1) y0 y1 y2 y3 y4))
  | 0 => ⟨fun _ _ _ r h => by simp [portageref1_Codes.j0] at h, fun _ _ _ _ r h => by simp [portageref1_Codes.l0] at h, fun _ _ _ _ _ r h => by simp [portageref1_Codes.l1] at h⟩
  | k + 1 => by
    obtain ⟨ih0, ih1, ih2⟩ := portageref1_Codes.mono_l k
    refine ⟨?_, ?_, ?_⟩
    · intro y0 y1 y2
      unfold portageref1_Codes.j0
      repeat' first
      | (with_reducible exact ih0 _ _ _)
      | (with_reducible exact ih1 _ _ _ _)
      | (with_reducible exact ih2 _ _ _ _ _)
      | (with_reducible exact portageref1_Check.mono _ _)
      | (with_reducible exact LeO.refl _)
      | (with_reducible exact LeO.none _)
      | (with_reducible refine LeO.ite ?_ ?_)
      | (with_reducible refine LeO.bind ?_ (fun _ => ?_))
      | exact ih0 _ _ _
      | exact ih1 _ _ _ _
      | exact ih2 _ _ _ _ _
      | exact portageref1_Check.mono _ _
      | exact LeO.none _
      | refine LeO.ite ?_ ?_
      | refine LeO.bind ?_ (fun _ => ?_)
    · intro y0 y1 y2 y3
      unfold portageref1_Codes.l0
      repeat' first
      | (with_reducible exact ih0 _ _ _)
      | (with_reducible exact ih1 _ _ _ _)
      | (with_reducible exact ih2 _ _ _ _ _)
      | (with_reducible exact portageref1_Check.mono _ _)
      | (with_reducible exact LeO.refl _)
      | (with_reducible exact LeO.none _)
      | (with_reducible refine LeO.ite ?_ ?_)
      | (with_reducible refine LeO.bind ?_ (fun _ => ?_))
      | exact ih0 _ _ _
      | exact ih1 _ _ _ _
      | exact ih2 _ _ _ _ _
      | exact portageref1_Check.mono _ _
      | exact LeO.none _
      | refine LeO.ite ?_ ?_
      | refine LeO.bind ?_ (fun _ => ?_)
    · intro y0 y1 y2 y3 y4
      unfold portageref1_Codes.l1
      repeat' first
      | (with_reducible exact ih0 _ _ _)
      | (with_reducible exact ih1 _ _ _ _)
      | (with_reducible exact ih2 _ _ _ _ _)
      | (with_reducible exact portageref1_Check.mono _ _)
      | (with_reducible exact LeO.refl _)
      | (with_reducible exact LeO.none _)
      | (with_reducible refine LeO.ite ?_ ?_)
      | (with_reducible refine LeO.bind ?_ (fun _ => ?_))
      | exact ih0 _ _ _
      | exact ih1 _ _ _ _
      | exact ih2 _ _ _ _ _
      | exact portageref1_Check.mono _ _
      | exact LeO.none _
      | refine LeO.ite ?_ ?_
      | refine LeO.bind ?_ (fun _ => ?_)
theorem portageref1_Codes.mono : ∀ a0 k, LeO (portageref1_Codes.f k a0) (portageref1_Codes.f (k + 1) a0) := by
  intro a0 k
  obtain ⟨ih0, ih1, ih2⟩ := portageref1_Codes.mono_l k
  unfold portageref1_Codes.f
  repeat' first
      | (with_reducible exact ih0 _ _ _)
      | (with_reducible exact ih1 _ _ _ _)
      | (with_reducible exact ih2 _ _ _ _ _)
      | (with_reducible exact portageref1_Check.mono _ _)
      | (with_reducible exact LeO.refl _)
      | (with_reducible exact LeO.none _)
      | (with_reducible refine LeO.ite ?_ ?_)
      | (with_reducible refine LeO.bind ?_ (fun _ => ?_))
      | exact ih0 _ _ _
      | exact ih1 _ _ _ _
      | exact ih2 _ _ _ _ _
      | exact portageref1_Check.mono _ _
      | exact LeO.none _
      | refine LeO.ite ?_ ?_
      | refine LeO.bind ?_ (fun _ => ?_)
set_option maxHeartbeats 8000000 in
set_option maxRecDepth 100000 in
theorem portageref1_Codes.calls (k : Nat) (A0 : Option Addr) (c0 : Nat) (l0 : List Int) (r1 : List (S43)) (r2 : Int) (w : World) (hr0 : Kd.C (Kd.int .i64) w A0 l0.length l0) (hc0 : l0.length ≤ c0) (h : portageref1_Codes.f k l0 = some (r1, r2)) :
    Calls Try.prog 25 #[.slice A0 l0.length c0] w fun e w' => ∃ v0_ : Value, e = .returned (.tuple #[v0_, .int .i64 r2]) ∧ Kd.R k43 43 w' w.heap.size (fun _ => True) v0_ r1 ∧ Below w.heap.size w w' := by
  have hu43 := Try.underlying43
  have HR0 := Aside0.mk hr0
  have HC0 := Aside0.mk hc0
  clear hr0 hc0
  have HB := Aside0.mk (Below.refl w.heap.size w)
  have H : ((portageref1_Check.f k l0).bind fun t129 => (if t129 = 0 then (portageref1_Codes.j0 k l0 t129 false) else (portageref1_Codes.j0 k l0 t129 (t129 != 302)))) = some (r1, r2) := h
  clear h
  replace H := Option.bind_eq_some_iff.mp H
  obtain ⟨t129, A20, H⟩ := H
  replace H : (if t129 = 0 then (portageref1_Codes.j0 k l0 t129 false) else (portageref1_Codes.j0 k l0 t129 (t129 != 302))) = some (r1, r2) := H
  have A2 := Aside0.mk A20
  clear A20
  have HC3 := Aside0.mk H
  clear H
  go_enter Try.func25, Try.ntmps25
  go_upto_region 2 with (first | ((with_reducible refine gate_callee (f := 31) rfl ?_); refine goesL_ (some 10) rfl rfl Try.func31 (by kernel_rfl) rfl #[.slice A0 l0.length c0] rfl (by (try simp only [List.map_toArray, List.map_cons, List.map_nil]); first | done | rfl | (simp only [List.length_drop, List.length_take]; rfl)) ?_; (with_reducible refine (portageref1_Check.calls k _ _ l0 t129 _ ?side1 ?side2 A2.out).mono ?_); (case side1 => repeat (first | exact HR0.out | (with_reducible refine Kd.C_alloc ?_ _) | (with_reducible refine Kd.C_drewN ?_ _) | (with_reducible refine Kd.C_drew ?_))); (case side2 => exact HC0.out); rintro e w' ⟨rfl, ⟨nd, rfl⟩⟩; refine ⟨_, rfl, ?_⟩))
  (try simp only [Act.put, List.setIfInBounds_toArray, List.set_cons_zero, List.set_cons_succ])
  go_cut [16] (fun v16 wc => ∃ (kq : Nat) (x16_2 : Bool), v16 = .bool x16_2 ∧ Aside0 (portageref1_Codes.j0 kq l0 t129 x16_2 = some (r1, r2)) ∧ Aside0 (kq ≤ k) ∧ Aside0 (Below w.heap.size w wc))
  case first =>
    have H := HC3.out
    clear HC3
    by_cases c4 : t129 = 0
    · rw [if_pos c4] at H
      have c4b0 : (t129 == 0) = true := beq_iff_eq.mpr c4
      have c4b1 : (t129 != 0) = false := bne_eq_false_iff_eq.mpr c4
      clear c4
      (first | rw [c4b0] | (simp only [i64_w, i32_w]; rw [c4b0]) | skip)
      have H' := Aside0.mk H
      clear H
      go_wp2
      go_meet
      case rel => exact ⟨_, (false), (by first | rfl | (simp; done) | (simp [*]; done)), H', ⟨by first | omega | exact Nat.le_refl _⟩, ⟨by repeat (first | (with_reducible first | exact HB.out | apply below_alloc | apply pw_below_drewN | apply below_drew1) | exact HB.out)⟩⟩
    · rw [if_neg c4] at H
      have c4b0 : (t129 == 0) = false := beq_eq_false_iff_ne.mpr c4
      have c4b1 : (t129 != 0) = true := bne_iff_ne.mpr c4
      (first | rw [c4b0] | (simp only [i64_w, i32_w]; rw [c4b0]) | skip)
      have H' := Aside0.mk H
      clear H
      go_wp2
      go_meet
      case rel => exact ⟨_, ((t129 != 302)), (by first | rfl | (simp; done) | (simp [*]; done)), H', ⟨by first | omega | exact Nat.le_refl _⟩, ⟨by repeat (first | (with_reducible first | exact HB.out | apply below_alloc | apply pw_below_drewN | apply below_drew1) | exact HB.out)⟩⟩
  case rest =>
    clear HC3
    try clear c2
    try clear p2
    try clear c3
    try clear c4
    try clear c4b0
    try clear c4b1
    obtain ⟨kq, x16_2, rfl, HA, HJ2, HB⟩ := hcut
    cases kq with
    | zero => exact absurd HA.out (by simp [portageref1_Codes.j0])
    | succ kj2 =>
      have H := HA.out
      clear HA
      simp only [portageref1_Codes.j0] at H
      by_cases c5 : x16_2 = true
      · subst c5
        have H1 : (some (([] : List (S43)), t129)) = some (r1, r2) := by rw [if_pos rfl] at H; exact H
        clear H
        have H := H1
        clear H1
        simp only [Option.some.injEq, Prod.mk.injEq] at H
        obtain ⟨rfl, rfl⟩ := H
        go_wp2
        go_ret2
        exact ⟨_, by first | rfl | (simp [errW_none, errW_some] <;> rfl) | (simp [*, errW_none, errW_some] <;> rfl), by first | exact Kd.R_nil _ _ _ _ _ | exact Kd.N_nil _ _ _ _ _ | exact Kd.V_nil _ _ _ _ _ | exact Kd.Q_nil _ _ _ _ _ | exact Kd.S_nil _ _ _ _ _, by repeat (first | (with_reducible first | exact HB.out | apply below_alloc | apply pw_below_drewN | apply below_drew1) | exact HB.out)⟩
      · replace c5 := Bool.eq_false_iff.mpr c5
        subst c5
        have H1 : (if 0 ≤ (l0.length : Int) then (if ((l0.length : Int) : Int).toNat ≤ 17592186044416 then (portageref1_Codes.l0 kj2 l0 (List.replicate ((l0.length : Int) : Int).toNat z43) 0 1) else (none)) else (none)) = some (r1, r2) := by rw [if_neg (show ¬ (false = true) by decide)] at H; exact H
        clear H
        have H := H1
        clear H1
        by_cases c6 : 0 ≤ (l0.length : Int)
        · rw [if_pos c6] at H
          have c6b0 := eq_true c6
          have c6b1 : decide (0 ≤ (l0.length : Int)) = true := decide_eq_true c6
          clear c6
          by_cases c7 : ((l0.length : Int) : Int).toNat ≤ 17592186044416
          · rw [if_pos c7] at H
            have c7b0 := eq_true c7
            have c7b1 : decide (((l0.length : Int) : Int).toNat ≤ 17592186044416) = true := decide_eq_true c7
            clear c7
            obtain ⟨y130, hy130⟩ : ∃ y_ : List (S43), y_ = (List.replicate ((l0.length : Int) : Int).toNat z43) := ⟨_, rfl⟩
            replace H : (portageref1_Codes.l0 kj2 l0 y130 0 1) = some (r1, r2) := by first | (rw [hy130]; with_reducible exact H) | (have H2_ := (Option.bind_some _ _).symm.trans H; rw [hy130]; with_reducible exact H2_) | (have H2_ := (Option.bind_some _ _).symm.trans H; with_reducible exact H2_) | with_reducible exact H | (rw [hy130]; exact H) | exact H
            have Ny130 := Aside0.mk hy130
            clear hy130
            have H' := Aside0.mk H
            clear H
            go_wp2_with (first | ((with_reducible refine gate_dst (N := 20) rfl ?_); refine Kd.R_make k43 _ 43 rfl (N := 20) rfl 24 _ _ rfl (l0.length : Int) rfl rfl Try.underlying24 (.agg #[(.int .i64 0), (.int .i64 0)]) 16 info43 rfl (by decide) (by omega) z43 (ok := fun _ => True) (okp := fun _ => True) (k43_mkM _ _ _ z43 ) (fun _ hk => hk) trivial (of_decide_eq_true (by first | (with_reducible assumption) | assumption)) (Nat.le_trans (Nat.mul_le_mul_right _ (of_decide_eq_true (by first | (with_reducible assumption) | assumption) : (l0.length : Int).toNat ≤ 17592186044416)) (by omega)) (Below.refl _ _) (Nat.le_refl _) ?_; intro v131 w8 ho9 hb hg_ hnew_; clear hg_ hnew_; (first | rw [← Ny130.out] at ho9 | (simp only [Int.reduceToNat] at ho9; rw [← Ny130.out] at ho9)); have n0_ := Aside0.mk (Kd.R_lower ho9 (below_size (by repeat (first | (with_reducible first | exact HB.out | apply below_alloc | apply pw_below_drewN | apply below_drew1) | exact HB.out)))); have n1_ := Aside0.mk (below_step (by repeat (first | (with_reducible first | exact HB.out | apply below_alloc | apply pw_below_drewN | apply below_drew1) | exact HB.out)) hb); clear HB; have HO132 := n0_; have HB := n1_; clear n0_ n1_; clear hb ho9))
            go_loopg [6, 7] kj2 (fun kq v6 v7 w' => ∃ (x5_2 : List (S43)) (x6_2 : Int) (x7_2 : Int), v6 = .int .i64 x6_2 ∧ v7 = .int .i64 x7_2 ∧ Aside0 (portageref1_Codes.l0 kq l0 x5_2 x6_2 x7_2 = some (r1, r2)) ∧ Aside0 (kq ≤ kj2) ∧ Aside0 (Kd.R k43 43 w' w.heap.size (fun _ => True) v131 x5_2) ∧ Aside0 (Below w.heap.size w w'))
            case atStart => exact ⟨(y130), (0), (1), (by first | rfl | (simp; done) | (simp [*]; done)), (by first | rfl | (simp; done) | (simp [*]; done)), H', ⟨Nat.le_refl _⟩, ⟨by (with_reducible repeat (first | apply Kd.R_alloc | apply Kd.R_drewN | apply Kd.R_drew)); exact HO132.out⟩, ⟨by repeat (first | (with_reducible first | exact HB.out | apply below_alloc | apply pw_below_drewN | apply below_drew1) | exact HB.out)⟩⟩
            case round =>
              clear H'
              try clear c2
              try clear p2
              try clear c3
              try clear c4
              try clear c4b0
              try clear c4b1
              try clear c5
              try clear c6
              try clear c6b0
              try clear c6b1
              try clear c7
              try clear c7b0
              try clear c7b1
              try clear p2
              obtain ⟨x5_2, x6_2, x7_2, rfl, rfl, HA, HK2, HO_5, HB⟩ := hrel
              cases gk with
              | zero => exact absurd HA.out (by simp [portageref1_Codes.l0])
              | succ k2 =>
                have H := HA.out
                clear HA
                simp only [portageref1_Codes.l0] at H
                by_cases c10 : x7_2 ≤ 15
                · rw [if_pos c10] at H
                  have c10b0 : decide (x7_2 ≤ 15) = true := decide_eq_true c10
                  clear c10
                  have H' := Aside0.mk H
                  clear H
                  go_wp2
                  go_loopg [6, 8] k2 (fun kq v6 v8 w' => ∃ (x5_3 : List (S43)) (x6_3 : Int) (x8_3 : Int), v6 = .int .i64 x6_3 ∧ v8 = .int .i64 x8_3 ∧ Aside0 (portageref1_Codes.l1 kq l0 x5_3 x6_3 x7_2 x8_3 = some (r1, r2)) ∧ Aside0 (kq ≤ k2) ∧ Aside0 (Kd.R k43 43 w' w.heap.size (fun _ => True) v131 x5_3) ∧ Aside0 (Below w.heap.size w w'))
                  case atStart => exact ⟨(x5_2), (wrap64 (2 * x6_2)), (0), (by first | rfl | (simp; done) | (simp [*]; done)), (by first | rfl | (simp; done) | (simp [*]; done)), H', ⟨Nat.le_refl _⟩, ⟨by (with_reducible repeat (first | apply Kd.R_alloc | apply Kd.R_drewN | apply Kd.R_drew)); exact HO_5.out⟩, ⟨by repeat (first | (with_reducible first | exact HB.out | apply below_alloc | apply pw_below_drewN | apply below_drew1) | exact HB.out)⟩⟩
                  case round =>
                    clear H'
                    try clear c1
                    try clear c2
                    try clear p2
                    try clear c3
                    try clear c4
                    try clear c4b0
                    try clear c4b1
                    try clear c5
                    try clear c6
                    try clear c6b0
                    try clear c6b1
                    try clear p6
                    try clear c7
                    try clear c7b0
                    try clear c7b1
                    try clear c10
                    try clear c10b0
                    try clear p2
                    obtain ⟨x5_3, x6_3, x8_3, rfl, rfl, HA, HK3, HO_5, HB⟩ := hrel
                    cases gk with
                    | zero => exact absurd HA.out (by simp [portageref1_Codes.l1])
                    | succ k3 =>
                      have H := HA.out
                      clear HA
                      simp only [portageref1_Codes.l1] at H
                      by_cases c11 : x8_3 < (l0.length : Int)
                      · rw [if_pos c11] at H
                        have c11b0 : decide (x8_3 < (l0.length : Int)) = true := decide_eq_true c11
                        clear c11
                        by_cases c12 : 0 ≤ x8_3
                        · rw [if_pos c12] at H
                          have c12b0 : decide (0 ≤ x8_3) = true := decide_eq_true c12
                          clear c12
                          by_cases c13 : (rd l0 x8_3) = x7_2
                          · rw [if_pos c13] at H
                            have c13b0 : ((rd l0 x8_3) == x7_2) = true := beq_iff_eq.mpr c13
                            have c13b1 : ((rd l0 x8_3) != x7_2) = false := bne_eq_false_iff_eq.mpr c13
                            clear c13
                            by_cases c14 : x8_3 < (x5_3.length : Int)
                            · rw [if_pos c14] at H
                              have c14b0 : decide (x8_3 < (x5_3.length : Int)) = true := decide_eq_true c14
                              clear c14
                              obtain ⟨y134, hy134⟩ : ∃ y_ : List (S43), y_ = (x5_3.set (x8_3 : Int).toNat (⟨x7_2, x6_3⟩ : S43)) := ⟨_, rfl⟩
                              replace H : (portageref1_Codes.l1 k3 l0 y134 (wrap64 (x6_3 + 1)) x7_2 (wrap64 (x8_3 + 1))) = some (r1, r2) := by first | (rw [hy134]; with_reducible exact H) | (have H2_ := (Option.bind_some _ _).symm.trans H; rw [hy134]; with_reducible exact H2_) | (have H2_ := (Option.bind_some _ _).symm.trans H; with_reducible exact H2_) | with_reducible exact H | (rw [hy134]; exact H) | exact H
                              have Ny134 := Aside0.mk hy134
                              clear hy134
                              have H' := Aside0.mk H
                              clear H
                              have p133 : 0 ≤ (x8_3 : Int) := of_decide_eq_true (by first | (with_reducible assumption) | assumption)
                              have q133 : x8_3 < (l0.length : Int) := of_decide_eq_true (by first | (with_reducible assumption) | assumption)
                              obtain ⟨ad133, e133, hx133_0⟩ := Kd.at_int HR0.out x8_3 p133 q133
                              cases e133
                              replace hx133_0 := (HB.out.cell (World.block_lt_of_cell? w _ hx133_0)).trans hx133_0
                              replace p133 := eq_true p133
                              replace q133 := eq_true q133
                              have p15 : 0 ≤ (x8_3 : Int) := of_decide_eq_true (by first | (with_reducible assumption) | assumption)
                              have q15 : (x8_3 : Int) < ((x5_3.length : Int) : Int) := of_decide_eq_true (by first | (with_reducible assumption) | assumption)
                              obtain ⟨go15, co15, eo15, gb15, gl15, cl15, HG15⟩ := Kd.R_form HO_5.out (by omega)
                              (first | cases eo15 | (injection eo15 with ea_ en_ ec_; (first | subst ea_ | (injection ea_ with ea_; subst ea_)); subst ec_; clear en_))
                              have GB15 := Aside0.mk gb15
                              have GG15 := Aside0.mk HG15
                              clear gb15 gl15 HG15
                              obtain ⟨ce15, hcl15, hM15, hcc15, hfr15⟩ := Kd.R_elem HO_5.out z43 (x8_3 : Int) p15 q15
                              obtain rfl := k43_openM hM15
                              have hx15_0 : wr.cell? ⟨go15, (x8_3 : Int).toNat * 2, none⟩ = some (.int .i64 ((rd_T43 x5_3 x8_3).f0)) := hcc15 0 _ rfl
                              have hx15_1 : wr.cell? ⟨go15, (x8_3 : Int).toNat * 2 + 1, none⟩ = some (.int .i64 ((rd_T43 x5_3 x8_3).f1)) := hcc15 1 _ rfl
                              have hf15_0 : wr.frozen? ⟨go15, (x8_3 : Int).toNat * 2, none⟩ = false := hfr15 0
                              have hf15_1 : wr.frozen? ⟨go15, (x8_3 : Int).toNat * 2 + 1, none⟩ = false := hfr15 1
                              clear hcl15 hcc15 hfr15 hM15
                              replace p15 := eq_true p15
                              replace q15 := eq_true q15
                              have HX16 := Aside0.mk (show Kd.R k43 43 wr w.heap.size (fun _ => True) (.slice (some ⟨go15, 0, none⟩) x5_3.length co15) x5_3 from (by (with_reducible repeat (first | apply Kd.R_alloc | apply Kd.R_drewN | apply Kd.R_drew)); exact HO_5.out))
                              obtain ⟨ce16, hcl16, hM16, hcc16, hfr16⟩ := Kd.R_elem HX16.out z43 (x8_3 : Int) (of_decide_eq_true (by first | (with_reducible assumption) | assumption)) (by have h_ : (x8_3 : Int) < ((x5_3.length : Int) : Int) := of_decide_eq_true (by first | (with_reducible assumption) | assumption); first | exact h_ | (have e_ := (Kd.R_reads' HO_5.out).1; omega) | simpa using h_)
                              obtain rfl := k43_openM hM16
                              have HP16 := Kd.R_seg HX16.out (x8_3 : Int) (of_decide_eq_true (by first | (with_reducible assumption) | assumption)) (by have h_ : (x8_3 : Int) < ((x5_3.length : Int) : Int) := of_decide_eq_true (by first | (with_reducible assumption) | assumption); first | exact h_ | (have e_ := (Kd.R_reads' HO_5.out).1; omega) | simpa using h_) (seg := [.int .i64 x7_2, .int .i64 x6_3]) (j := 0) hcl16 hcc16 (show 2 ≤ 2 from by decide) (x' := (⟨x7_2, x6_3⟩ : S43)) (k43_mkM _ _ _ (⟨x7_2, x6_3⟩ : S43) ) (fun _ hk => hk)
                              have hx16_0 := hcc16 0 _ rfl
                              (try simp only [show (k43).sz = 2 from rfl, Nat.mul_one, Nat.add_zero] at hx16_0)
                              have hf16_0 := hfr16 0
                              (try simp only [show (k43).sz = 2 from rfl, Nat.mul_one, Nat.add_zero] at hf16_0)
                              have hx16_1 := hcc16 1 _ rfl
                              (try simp only [show (k43).sz = 2 from rfl, Nat.mul_one, Nat.add_zero] at hx16_1)
                              have hf16_1 := hfr16 1
                              (try simp only [show (k43).sz = 2 from rfl, Nat.mul_one, Nat.add_zero] at hf16_1)
                              clear hcl16 hcc16 hfr16 hM16
                              go_wp2_with (first | ((with_reducible refine gate_store (t := 43) (p := 44) rfl ?_); refine store_event (t := 43) (p := 44) (v := ?vo_w17) (w1 := ((wr.setCell ⟨go15, (x8_3 : Int).toNat * 2, none⟩ (.int .i64 x7_2)).setCell ⟨go15, (x8_3 : Int).toNat * 2 + 1, none⟩ (.int .i64 x6_3))) ?hg ?ho ?hn ?hr ?_; (case ho => rfl); (case hg => rfl); (case hn => rfl); (case hr => first | (go_simp; done) | (go_simp; rfl)); intro w17 hw; have hg : wr.grownBy w17 (some go15) := (by rw [hw]; exact HP16.2); have hp_ : Kd.R k43 43 w17 w.heap.size (fun _ => True) (.slice (some ⟨go15, 0, none⟩) x5_3.length co15) y134 := (by rw [hw, Ny134.out]; exact HP16.1); clear HP16; have n0_ := Aside0.mk (hp_); have n1_ := Aside0.mk ((by rw [hw]; exact below_set (below_set (HB.out) GB15.out) GB15.out : Below w.heap.size w w17)); clear HO_5; clear HB; have HO_5 := n0_; have HB := n1_; clear n0_ n1_; clear hg hw hp_))
                              go_roundg k3
                              case measure => have := HJ2.out; have := HK2.out; have := HK3.out; omega
                              case rel => exact ⟨(y134), (wrap64 (x6_3 + 1)), (wrap64 (x8_3 + 1)), (by first | rfl | (simp; done) | (simp [*]; done)), (by first | rfl | (simp; done) | (simp [*]; done)), H', ⟨by have := HJ2.out; have := HK2.out; have := HK3.out; omega⟩, ⟨by (with_reducible repeat (first | apply Kd.R_alloc | apply Kd.R_drewN | apply Kd.R_drew)); exact HO_5.out⟩, ⟨by repeat (first | (with_reducible first | exact HB.out | apply below_alloc | apply pw_below_drewN | apply below_drew1) | exact HB.out)⟩⟩
                            · rw [if_neg c14] at H
                              exact absurd H (by simp)
                          · rw [if_neg c13] at H
                            have c13b0 : ((rd l0 x8_3) == x7_2) = false := beq_eq_false_iff_ne.mpr c13
                            have c13b1 : ((rd l0 x8_3) != x7_2) = true := bne_iff_ne.mpr c13
                            have H' := Aside0.mk H
                            clear H
                            have p133 : 0 ≤ (x8_3 : Int) := of_decide_eq_true (by first | (with_reducible assumption) | assumption)
                            have q133 : x8_3 < (l0.length : Int) := of_decide_eq_true (by first | (with_reducible assumption) | assumption)
                            obtain ⟨ad133, e133, hx133_0⟩ := Kd.at_int HR0.out x8_3 p133 q133
                            cases e133
                            replace hx133_0 := (HB.out.cell (World.block_lt_of_cell? w _ hx133_0)).trans hx133_0
                            replace p133 := eq_true p133
                            replace q133 := eq_true q133
                            go_wp2
                            go_roundg k3
                            case measure => have := HJ2.out; have := HK2.out; have := HK3.out; omega
                            case rel => exact ⟨(x5_3), (x6_3), (wrap64 (x8_3 + 1)), (by first | rfl | (simp; done) | (simp [*]; done)), (by first | rfl | (simp; done) | (simp [*]; done)), H', ⟨by have := HJ2.out; have := HK2.out; have := HK3.out; omega⟩, ⟨by (with_reducible repeat (first | apply Kd.R_alloc | apply Kd.R_drewN | apply Kd.R_drew)); exact HO_5.out⟩, ⟨by repeat (first | (with_reducible first | exact HB.out | apply below_alloc | apply pw_below_drewN | apply below_drew1) | exact HB.out)⟩⟩
                        · rw [if_neg c12] at H
                          exact absurd H (by simp)
                      · rw [if_neg c11] at H
                        have c11b0 : decide (x8_3 < (l0.length : Int)) = false := decide_eq_false c11
                        clear c11
                        have H' := Aside0.mk H
                        clear H
                        go_wp2
                        go_roundg k3
                        case measure => have := HJ2.out; have := HK2.out; have := HK3.out; omega
                        case rel => exact ⟨(x5_3), (x6_3), (wrap64 (x7_2 + 1)), (by first | rfl | (simp; done) | (simp [*]; done)), (by first | rfl | (simp; done) | (simp [*]; done)), H', ⟨by have := HJ2.out; have := HK2.out; have := HK3.out; omega⟩, ⟨by (with_reducible repeat (first | apply Kd.R_alloc | apply Kd.R_drewN | apply Kd.R_drew)); exact HO_5.out⟩, ⟨by repeat (first | (with_reducible first | exact HB.out | apply below_alloc | apply pw_below_drewN | apply below_drew1) | exact HB.out)⟩⟩
                · rw [if_neg c10] at H
                  have c10b0 : decide (x7_2 ≤ 15) = false := decide_eq_false c10
                  clear c10
                  simp only [Option.some.injEq, Prod.mk.injEq] at H
                  obtain ⟨rfl, rfl⟩ := H
                  go_wp2
                  go_ret2
                  exact ⟨_, by first | rfl | (simp [errW_none, errW_some] <;> rfl) | (simp [*, errW_none, errW_some] <;> rfl), by (with_reducible repeat (first | apply Kd.R_alloc | apply Kd.R_drewN | apply Kd.R_drew)); exact HO_5.out, by repeat (first | (with_reducible first | exact HB.out | apply below_alloc | apply pw_below_drewN | apply below_drew1) | exact HB.out)⟩
          · rw [if_neg c7] at H
            exact absurd H (by simp)
        · rw [if_neg c6] at H
          exact absurd H (by simp)

/-! ### huff_Book_Find: function 70 -/

/-! ### huff_Find: function 26 -/
def huff_Find.f (l0 : List Int) (a1 : Int) (a2 : Int) : Option (Int × Bool × Int) := if huffMay l0 = false then some (0, false, 300) else if HuffM.lft l0 15 < 0 then some (0, false, 301) else if a1 < 1 then some (0, false, 0) else if a1 > 15 then some (0, false, 0) else if a2 < HuffM.cd l0 a1.toNat then some (0, false, 0) else if wrap64 (a2 - HuffM.cd l0 a1.toNat) ≥ HuffM.cnt l0 a1.toNat then some (0, false, 0) else if 0 ≤ wrap64 (a2 - HuffM.cd l0 a1.toNat) then some (rd (HuffM.pos l0 a1.toNat) (wrap64 (a2 - HuffM.cd l0 a1.toNat)), true, 0) else none
theorem huff_Find.calls (A0 : Option Addr) (c0 : Nat) (l0 : List Int) (a1 : Int) (a2 : Int) (r1 : Int) (r2 : Bool) (r3 : Int) (w : World) (hr0 : Kd.C (Kd.int .i64) w A0 l0.length l0) (hc0 : l0.length ≤ c0) (h : huff_Find.f l0 a1 a2 = some (r1, r2, r3)) :
    Calls Try.prog 26 #[.slice A0 l0.length c0, .int .i64 a1, .int .i64 a2] w fun e w' => e = .returned (.tuple #[.int .i64 r1, .bool r2, .int .i64 r3]) ∧ Below w.heap.size w w' := by
  unfold huff_Find.f at h
  cases h1 : huffMay l0 with
  | false =>
    rw [if_pos h1] at h
    obtain ⟨rfl, rfl, rfl⟩ : 0 = r1 ∧ false = r2 ∧ 300 = r3 := by simpa using h
    exact huff_Find_no A0 c0 l0 w a1 a2 hr0 hc0 300 rfl rfl (fun w hr => huff_book_form A0 c0 l0 w hr hc0 h1)
  | true =>
    have hl := (huffMay_out h1).1
    rw [if_neg (by rw [h1]; decide)] at h
    by_cases h2 : HuffM.lft l0 15 < 0
    · rw [if_pos h2] at h
      obtain ⟨rfl, rfl, rfl⟩ : 0 = r1 ∧ false = r2 ∧ 301 = r3 := by simpa using h
      exact huff_Find_no A0 c0 l0 w a1 a2 hr0 hc0 301 rfl rfl (fun w hr => huff_book_over A0 c0 l0 w hr hc0 h1 h2)
    · rw [if_neg h2] at h
      by_cases h3 : a1 < 1
      · rw [if_pos h3] at h
        obtain ⟨rfl, rfl, rfl⟩ : 0 = r1 ∧ false = r2 ∧ 0 = r3 := by simpa using h
        exact huff_Find_yes A0 c0 l0 w a1 a2 0 false hr0 hc0 h1 h2 (fun g vs w' hb _ => huff_BFind_no g vs l0 a1 a2 w' hb hl (.inl h3))
      · rw [if_neg h3] at h
        by_cases h4 : a1 > 15
        · rw [if_pos h4] at h
          obtain ⟨rfl, rfl, rfl⟩ : 0 = r1 ∧ false = r2 ∧ 0 = r3 := by simpa using h
          exact huff_Find_yes A0 c0 l0 w a1 a2 0 false hr0 hc0 h1 h2 (fun g vs w' hb _ => huff_BFind_no g vs l0 a1 a2 w' hb hl (.inr h4))
        · rw [if_neg h4] at h
          obtain ⟨n, rfl⟩ : ∃ n : Nat, a1 = (n : Int) := ⟨a1.toNat, by omega⟩
          rw [Int.toNat_natCast] at h
          by_cases h5 : a2 < HuffM.cd l0 n
          · rw [if_pos h5] at h
            obtain ⟨rfl, rfl, rfl⟩ : 0 = r1 ∧ false = r2 ∧ 0 = r3 := by simpa using h
            exact huff_Find_yes A0 c0 l0 w n a2 0 false hr0 hc0 h1 h2 (fun g vs w' hb _ => huff_BFind_out g vs l0 a2 w' n hb hl (by omega) (by omega) (.inl h5))
          · rw [if_neg h5] at h
            by_cases h6 : wrap64 (a2 - HuffM.cd l0 n) ≥ HuffM.cnt l0 n
            · rw [if_pos h6] at h
              obtain ⟨rfl, rfl, rfl⟩ : 0 = r1 ∧ false = r2 ∧ 0 = r3 := by simpa using h
              exact huff_Find_yes A0 c0 l0 w n a2 0 false hr0 hc0 h1 h2 (fun g vs w' hb _ => huff_BFind_out g vs l0 a2 w' n hb hl (by omega) (by omega) (.inr h6))
            · rw [if_neg h6] at h
              by_cases h7 : 0 ≤ wrap64 (a2 - HuffM.cd l0 n)
              · rw [if_pos h7] at h
                obtain ⟨q, hq⟩ : ∃ q : Nat, wrap64 (a2 - HuffM.cd l0 n) = (q : Int) := ⟨(wrap64 (a2 - HuffM.cd l0 n)).toNat, by omega⟩
                rw [hq] at h h6
                obtain ⟨rfl, rfl, rfl⟩ : rd (HuffM.pos l0 n) (q : Int) = r1 ∧ true = r2 ∧ 0 = r3 := by simpa using h
                exact huff_Find_yes A0 c0 l0 w n a2 _ true hr0 hc0 h1 h2 (fun g vs w' hb hr => huff_BFind_yes g vs l0 a2 w.heap.size w' n hb hr hl (by omega) (by omega) h5 q hq (by omega))
              · rw [if_neg h7] at h
                exact absurd h (by simp)

end Go.Proofs.Ytbifignggnfodaa.HH
