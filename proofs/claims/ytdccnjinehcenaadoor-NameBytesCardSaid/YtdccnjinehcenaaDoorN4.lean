-- Written by a program of this session out of the translation (a changed copy of the kit's printer).
import Derived.Test.YtdccnjinehcenaaDoorN0
import Derived.Test.YtdccnjinehcenaaDoorN1
import Derived.Test.YtdccnjinehcenaaDoorN3
namespace Go.Proofs.YtdccnjinehcenaaDoor.N
open Go.RowKit Go.Proofs.YtdccnjinehcenaaDoorW.PrintWords Go.Proofs.YtdccnjinehcenaaDoorW.PrintLast Go.Proofs.YtdccnjinehcenaaDoorW.PrintMore
attribute [local go_sem] max2_int min2_int max_two min_two max_three min_three max_four min_four   -- for this text's walks alone
set_option linter.unusedVariables false
set_option linter.unusedSimpArgs false

/-! ### portagelaw10_NameBytes: function 4 -/
mutual
def portagelaw10_NameBytes.j0 : Nat → ByteArray → Int → Bool → Option (Bool)
  | 0, _, _, _ => none
  | k + 1, x1, x5, x6 => (some (([x5] : List Int) : List Int)).bind fun y114 => ((name_May.f (strOfNums y114)).bind fun t117 => (if (t117 != x6) = true then (portagelaw10_NameBytes.j1 k x1 x5 x6 (strOfNums y114) true) else ((portagelaw0_Num.f 0).bind fun t118 => (portagelaw10_NameBytes.j1 k x1 x5 x6 (strOfNums y114) (t118 != 0)))))
def portagelaw10_NameBytes.j1 : Nat → ByteArray → Int → Bool → ByteArray → Bool → Option (Bool)
  | 0, _, _, _, _, _ => none
  | k + 1, x1, x5, x6, x7, x44 => if x44 = true then (none) else (if x6 = true then (portagelaw10_NameBytes.j2 k x1 x7 false) else (portagelaw10_NameBytes.j2 k x1 x7 (x5 != 46)))
def portagelaw10_NameBytes.j2 : Nat → ByteArray → ByteArray → Bool → Option (Bool)
  | 0, _, _, _ => none
  | k + 1, x1, x7, x50 => if x50 = true then (if 1 + x7.size ≤ 9223372036854775807 then ((name_May.f ((⟨#[97]⟩ : ByteArray) ++ x7)).bind fun t119 => (if t119 = true then (none) else (if x7.size + 1 ≤ 9223372036854775807 then ((name_May.f (x7 ++ (⟨#[97]⟩ : ByteArray))).bind fun t120 => (if t120 = true then (none) else (if x1.size + x7.size ≤ 9223372036854775807 then ((name_May.f (x1 ++ x7)).bind fun t121 => (some (!t121))) else (none)))) else (none)))) else (none)) else (if 1 + x7.size ≤ 9223372036854775807 then ((name_May.f ((⟨#[97]⟩ : ByteArray) ++ x7)).bind fun t122 => (if t122 = true then (if ((⟨#[97]⟩ : ByteArray) ++ x7).size + 1 ≤ 9223372036854775807 then ((name_May.f (((⟨#[97]⟩ : ByteArray) ++ x7) ++ (⟨#[97]⟩ : ByteArray))).bind fun t123 => (some t123)) else (none)) else (none))) else (none))
end
def portagelaw10_NameBytes.f (k : Nat) (a0 : Int) (a1 : ByteArray) : Option (Bool) := (portagelaw10_awake.f).bind fun t113 => (if t113 = true then (if ((a0) % 256) ≥ 97 then (if ((a0) % 256) ≤ 122 then (portagelaw10_NameBytes.j0 k a1 ((a0) % 256) true) else (if ((a0) % 256) ≥ 48 then (if ((a0) % 256) ≤ 57 then (portagelaw10_NameBytes.j0 k a1 ((a0) % 256) true) else (if ((a0) % 256) = 45 then (portagelaw10_NameBytes.j0 k a1 ((a0) % 256) true) else (portagelaw10_NameBytes.j0 k a1 ((a0) % 256) (((a0) % 256) == 95)))) else (if ((a0) % 256) = 45 then (portagelaw10_NameBytes.j0 k a1 ((a0) % 256) true) else (portagelaw10_NameBytes.j0 k a1 ((a0) % 256) (((a0) % 256) == 95))))) else (if ((a0) % 256) ≥ 48 then (if ((a0) % 256) ≤ 57 then (portagelaw10_NameBytes.j0 k a1 ((a0) % 256) true) else (if ((a0) % 256) = 45 then (portagelaw10_NameBytes.j0 k a1 ((a0) % 256) true) else (portagelaw10_NameBytes.j0 k a1 ((a0) % 256) (((a0) % 256) == 95)))) else (if ((a0) % 256) = 45 then (portagelaw10_NameBytes.j0 k a1 ((a0) % 256) true) else (portagelaw10_NameBytes.j0 k a1 ((a0) % 256) (((a0) % 256) == 95))))) else (none))
theorem portagelaw10_NameBytes.mono_l : ∀ k, (∀ y0 y1 y2, LeO (portagelaw10_NameBytes.j0 k y0 y1 y2) (portagelaw10_NameBytes.j0 (k + 1) y0 y1 y2)) ∧ (∀ y0 y1 y2 y3 y4, LeO (portagelaw10_NameBytes.j1 k y0 y1 y2 y3 y4) (portagelaw10_NameBytes.j1 (k + 1) y0 y1 y2 y3 y4)) ∧ (∀ y0 y1 y2, LeO (portagelaw10_NameBytes.j2 k y0 y1 y2) (portagelaw10_NameBytes.j2 (k + 1) y0 y1 y2))
  | 0 => ⟨fun _ _ _ r h => by simp [portagelaw10_NameBytes.j0] at h, fun _ _ _ _ _ r h => by simp [portagelaw10_NameBytes.j1] at h, fun _ _ _ r h => by simp [portagelaw10_NameBytes.j2] at h⟩
  | k + 1 => by
    obtain ⟨ih0, ih1, ih2⟩ := portagelaw10_NameBytes.mono_l k
    refine ⟨?_, ?_, ?_⟩
    · intro y0 y1 y2
      unfold portagelaw10_NameBytes.j0
      repeat' first
      | (with_reducible exact ih0 _ _ _)
      | (with_reducible exact ih1 _ _ _ _ _)
      | (with_reducible exact ih2 _ _ _)
      | (with_reducible exact LeO.refl _)
      | (with_reducible exact LeO.none _)
      | (with_reducible refine LeO.ite ?_ ?_)
      | (with_reducible refine LeO.bind ?_ (fun _ => ?_))
      | exact ih0 _ _ _
      | exact ih1 _ _ _ _ _
      | exact ih2 _ _ _
      | exact LeO.none _
      | refine LeO.ite ?_ ?_
      | refine LeO.bind ?_ (fun _ => ?_)
    · intro y0 y1 y2 y3 y4
      unfold portagelaw10_NameBytes.j1
      repeat' first
      | (with_reducible exact ih0 _ _ _)
      | (with_reducible exact ih1 _ _ _ _ _)
      | (with_reducible exact ih2 _ _ _)
      | (with_reducible exact LeO.refl _)
      | (with_reducible exact LeO.none _)
      | (with_reducible refine LeO.ite ?_ ?_)
      | (with_reducible refine LeO.bind ?_ (fun _ => ?_))
      | exact ih0 _ _ _
      | exact ih1 _ _ _ _ _
      | exact ih2 _ _ _
      | exact LeO.none _
      | refine LeO.ite ?_ ?_
      | refine LeO.bind ?_ (fun _ => ?_)
    · intro y0 y1 y2
      unfold portagelaw10_NameBytes.j2
      repeat' first
      | (with_reducible exact ih0 _ _ _)
      | (with_reducible exact ih1 _ _ _ _ _)
      | (with_reducible exact ih2 _ _ _)
      | (with_reducible exact LeO.refl _)
      | (with_reducible exact LeO.none _)
      | (with_reducible refine LeO.ite ?_ ?_)
      | (with_reducible refine LeO.bind ?_ (fun _ => ?_))
      | exact ih0 _ _ _
      | exact ih1 _ _ _ _ _
      | exact ih2 _ _ _
      | exact LeO.none _
      | refine LeO.ite ?_ ?_
      | refine LeO.bind ?_ (fun _ => ?_)
theorem portagelaw10_NameBytes.mono : ∀ a0 a1 k, LeO (portagelaw10_NameBytes.f k a0 a1) (portagelaw10_NameBytes.f (k + 1) a0 a1) := by
  intro a0 a1 k
  obtain ⟨ih0, ih1, ih2⟩ := portagelaw10_NameBytes.mono_l k
  unfold portagelaw10_NameBytes.f
  repeat' first
      | (with_reducible exact ih0 _ _ _)
      | (with_reducible exact ih1 _ _ _ _ _)
      | (with_reducible exact ih2 _ _ _)
      | (with_reducible exact LeO.refl _)
      | (with_reducible exact LeO.none _)
      | (with_reducible refine LeO.ite ?_ ?_)
      | (with_reducible refine LeO.bind ?_ (fun _ => ?_))
      | exact ih0 _ _ _
      | exact ih1 _ _ _ _ _
      | exact ih2 _ _ _
      | exact LeO.none _
      | refine LeO.ite ?_ ?_
      | refine LeO.bind ?_ (fun _ => ?_)
set_option maxHeartbeats 8000000 in
set_option maxRecDepth 100000 in
theorem portagelaw10_NameBytes.calls (k : Nat) (a0 : Int) (a1 : ByteArray) (r : Bool) (w : World) (h : portagelaw10_NameBytes.f k a0 a1 = some r) :
    Calls Tryd.prog 4 #[.int .i64 a0, .string a1] w fun e w' => e = .returned (.bool r) ∧ Below w.heap.size w w' := by
  have HB := Aside0.mk (Below.refl w.heap.size w)
  have H : ((portagelaw10_awake.f).bind fun t113 => (if t113 = true then (if ((a0) % 256) ≥ 97 then (if ((a0) % 256) ≤ 122 then (portagelaw10_NameBytes.j0 k a1 ((a0) % 256) true) else (if ((a0) % 256) ≥ 48 then (if ((a0) % 256) ≤ 57 then (portagelaw10_NameBytes.j0 k a1 ((a0) % 256) true) else (if ((a0) % 256) = 45 then (portagelaw10_NameBytes.j0 k a1 ((a0) % 256) true) else (portagelaw10_NameBytes.j0 k a1 ((a0) % 256) (((a0) % 256) == 95)))) else (if ((a0) % 256) = 45 then (portagelaw10_NameBytes.j0 k a1 ((a0) % 256) true) else (portagelaw10_NameBytes.j0 k a1 ((a0) % 256) (((a0) % 256) == 95))))) else (if ((a0) % 256) ≥ 48 then (if ((a0) % 256) ≤ 57 then (portagelaw10_NameBytes.j0 k a1 ((a0) % 256) true) else (if ((a0) % 256) = 45 then (portagelaw10_NameBytes.j0 k a1 ((a0) % 256) true) else (portagelaw10_NameBytes.j0 k a1 ((a0) % 256) (((a0) % 256) == 95)))) else (if ((a0) % 256) = 45 then (portagelaw10_NameBytes.j0 k a1 ((a0) % 256) true) else (portagelaw10_NameBytes.j0 k a1 ((a0) % 256) (((a0) % 256) == 95))))) else (none))) = some r := h
  clear h
  replace H := Option.bind_eq_some_iff.mp H
  obtain ⟨t113, A30, H⟩ := H
  replace H : (if t113 = true then (if ((a0) % 256) ≥ 97 then (if ((a0) % 256) ≤ 122 then (portagelaw10_NameBytes.j0 k a1 ((a0) % 256) true) else (if ((a0) % 256) ≥ 48 then (if ((a0) % 256) ≤ 57 then (portagelaw10_NameBytes.j0 k a1 ((a0) % 256) true) else (if ((a0) % 256) = 45 then (portagelaw10_NameBytes.j0 k a1 ((a0) % 256) true) else (portagelaw10_NameBytes.j0 k a1 ((a0) % 256) (((a0) % 256) == 95)))) else (if ((a0) % 256) = 45 then (portagelaw10_NameBytes.j0 k a1 ((a0) % 256) true) else (portagelaw10_NameBytes.j0 k a1 ((a0) % 256) (((a0) % 256) == 95))))) else (if ((a0) % 256) ≥ 48 then (if ((a0) % 256) ≤ 57 then (portagelaw10_NameBytes.j0 k a1 ((a0) % 256) true) else (if ((a0) % 256) = 45 then (portagelaw10_NameBytes.j0 k a1 ((a0) % 256) true) else (portagelaw10_NameBytes.j0 k a1 ((a0) % 256) (((a0) % 256) == 95)))) else (if ((a0) % 256) = 45 then (portagelaw10_NameBytes.j0 k a1 ((a0) % 256) true) else (portagelaw10_NameBytes.j0 k a1 ((a0) % 256) (((a0) % 256) == 95))))) else (none)) = some r := H
  have A3 := Aside0.mk A30
  clear A30
  by_cases c4 : t113 = true
  · subst c4
    have H1 : (if ((a0) % 256) ≥ 97 then (if ((a0) % 256) ≤ 122 then (portagelaw10_NameBytes.j0 k a1 ((a0) % 256) true) else (if ((a0) % 256) ≥ 48 then (if ((a0) % 256) ≤ 57 then (portagelaw10_NameBytes.j0 k a1 ((a0) % 256) true) else (if ((a0) % 256) = 45 then (portagelaw10_NameBytes.j0 k a1 ((a0) % 256) true) else (portagelaw10_NameBytes.j0 k a1 ((a0) % 256) (((a0) % 256) == 95)))) else (if ((a0) % 256) = 45 then (portagelaw10_NameBytes.j0 k a1 ((a0) % 256) true) else (portagelaw10_NameBytes.j0 k a1 ((a0) % 256) (((a0) % 256) == 95))))) else (if ((a0) % 256) ≥ 48 then (if ((a0) % 256) ≤ 57 then (portagelaw10_NameBytes.j0 k a1 ((a0) % 256) true) else (if ((a0) % 256) = 45 then (portagelaw10_NameBytes.j0 k a1 ((a0) % 256) true) else (portagelaw10_NameBytes.j0 k a1 ((a0) % 256) (((a0) % 256) == 95)))) else (if ((a0) % 256) = 45 then (portagelaw10_NameBytes.j0 k a1 ((a0) % 256) true) else (portagelaw10_NameBytes.j0 k a1 ((a0) % 256) (((a0) % 256) == 95))))) = some r := by rw [if_pos rfl] at H; exact H
    clear H
    have H := H1
    clear H1
    have HC5 := Aside0.mk H
    clear H
    go_enter Tryd.func4, Tryd.ntmps4
    go_upto_region 4 with (first | ((with_reducible refine gate_callee (f := 8) rfl ?_); refine goesL_ (some 8) rfl rfl Tryd.func8 (by kernel_rfl) rfl #[] rfl (by (try simp only [List.map_toArray, List.map_cons, List.map_nil]); first | done | rfl | (simp only [List.length_drop, List.length_take]; rfl)) ?_; (with_reducible refine (portagelaw10_awake.calls  true _ A3.out).mono ?_); rintro e w6 ⟨rfl, hb⟩; refine ⟨_, rfl, ?_⟩; have n0_ := Aside0.mk (below_step (by repeat (first | (with_reducible first | exact HB.out | apply below_alloc | apply pw_below_drewN | apply below_drew1) | exact HB.out)) hb); clear HB; have HB := n0_; clear n0_; (try clear hb); (try clear hb2); (try clear hk); (try clear hi)))
    (try simp only [Act.put, List.setIfInBounds_toArray, List.set_cons_zero, List.set_cons_succ])
    go_cut [6] (fun v6 wc => ∃ (kq : Nat) (x6_4 : Bool), v6 = .bool x6_4 ∧ Aside0 (portagelaw10_NameBytes.j0 kq a1 ((a0) % 256) x6_4 = some r) ∧ Aside0 (kq ≤ k) ∧ Aside0 (Below w.heap.size w wc))
    case first =>
      have H := HC5.out
      clear HC5
      by_cases c7 : ((a0) % 256) ≥ 97
      · rw [if_pos c7] at H
        have c7b0 : decide (97 ≤ ((a0) % 256)) = true := decide_eq_true c7
        clear c7
        (first | rw [c7b0] | (simp only [i64_w, i32_w]; rw [c7b0]) | skip)
        by_cases c8 : ((a0) % 256) ≤ 122
        · rw [if_pos c8] at H
          have c8b0 : decide (((a0) % 256) ≤ 122) = true := decide_eq_true c8
          clear c8
          have H' := Aside0.mk H
          clear H
          go_wp2
          go_meet
          case rel => exact ⟨_, (true), (by first | rfl | (simp; done) | (simp [*]; done)), H', ⟨by first | omega | exact Nat.le_refl _⟩, ⟨by repeat (first | (with_reducible first | exact HB.out | apply below_alloc | apply pw_below_drewN | apply below_drew1) | exact HB.out)⟩⟩
        · rw [if_neg c8] at H
          have c8b0 : decide (((a0) % 256) ≤ 122) = false := decide_eq_false c8
          clear c8
          by_cases c9 : ((a0) % 256) ≥ 48
          · rw [if_pos c9] at H
            have c9b0 : decide (48 ≤ ((a0) % 256)) = true := decide_eq_true c9
            clear c9
            by_cases c10 : ((a0) % 256) ≤ 57
            · rw [if_pos c10] at H
              have c10b0 : decide (((a0) % 256) ≤ 57) = true := decide_eq_true c10
              clear c10
              have H' := Aside0.mk H
              clear H
              go_wp2
              go_meet
              case rel => exact ⟨_, (true), (by first | rfl | (simp; done) | (simp [*]; done)), H', ⟨by first | omega | exact Nat.le_refl _⟩, ⟨by repeat (first | (with_reducible first | exact HB.out | apply below_alloc | apply pw_below_drewN | apply below_drew1) | exact HB.out)⟩⟩
            · rw [if_neg c10] at H
              have c10b0 : decide (((a0) % 256) ≤ 57) = false := decide_eq_false c10
              clear c10
              by_cases c11 : ((a0) % 256) = 45
              · rw [if_pos c11] at H
                have c11b0 : (((a0) % 256) == 45) = true := beq_iff_eq.mpr c11
                have c11b1 : (((a0) % 256) != 45) = false := bne_eq_false_iff_eq.mpr c11
                clear c11
                have H' := Aside0.mk H
                clear H
                go_wp2
                go_meet
                case rel => exact ⟨_, (true), (by first | rfl | (simp; done) | (simp [*]; done)), H', ⟨by first | omega | exact Nat.le_refl _⟩, ⟨by repeat (first | (with_reducible first | exact HB.out | apply below_alloc | apply pw_below_drewN | apply below_drew1) | exact HB.out)⟩⟩
              · rw [if_neg c11] at H
                have c11b0 : (((a0) % 256) == 45) = false := beq_eq_false_iff_ne.mpr c11
                have c11b1 : (((a0) % 256) != 45) = true := bne_iff_ne.mpr c11
                have H' := Aside0.mk H
                clear H
                go_wp2
                go_meet
                case rel => exact ⟨_, ((((a0) % 256) == 95)), (by first | rfl | (simp; done) | (simp [*]; done)), H', ⟨by first | omega | exact Nat.le_refl _⟩, ⟨by repeat (first | (with_reducible first | exact HB.out | apply below_alloc | apply pw_below_drewN | apply below_drew1) | exact HB.out)⟩⟩
          · rw [if_neg c9] at H
            have c9b0 : decide (48 ≤ ((a0) % 256)) = false := decide_eq_false c9
            clear c9
            by_cases c12 : ((a0) % 256) = 45
            · rw [if_pos c12] at H
              have c12b0 : (((a0) % 256) == 45) = true := beq_iff_eq.mpr c12
              have c12b1 : (((a0) % 256) != 45) = false := bne_eq_false_iff_eq.mpr c12
              clear c12
              have H' := Aside0.mk H
              clear H
              go_wp2
              go_meet
              case rel => exact ⟨_, (true), (by first | rfl | (simp; done) | (simp [*]; done)), H', ⟨by first | omega | exact Nat.le_refl _⟩, ⟨by repeat (first | (with_reducible first | exact HB.out | apply below_alloc | apply pw_below_drewN | apply below_drew1) | exact HB.out)⟩⟩
            · rw [if_neg c12] at H
              have c12b0 : (((a0) % 256) == 45) = false := beq_eq_false_iff_ne.mpr c12
              have c12b1 : (((a0) % 256) != 45) = true := bne_iff_ne.mpr c12
              have H' := Aside0.mk H
              clear H
              go_wp2
              go_meet
              case rel => exact ⟨_, ((((a0) % 256) == 95)), (by first | rfl | (simp; done) | (simp [*]; done)), H', ⟨by first | omega | exact Nat.le_refl _⟩, ⟨by repeat (first | (with_reducible first | exact HB.out | apply below_alloc | apply pw_below_drewN | apply below_drew1) | exact HB.out)⟩⟩
      · rw [if_neg c7] at H
        have c7b0 : decide (97 ≤ ((a0) % 256)) = false := decide_eq_false c7
        clear c7
        (first | rw [c7b0] | (simp only [i64_w, i32_w]; rw [c7b0]) | skip)
        by_cases c13 : ((a0) % 256) ≥ 48
        · rw [if_pos c13] at H
          have c13b0 : decide (48 ≤ ((a0) % 256)) = true := decide_eq_true c13
          clear c13
          by_cases c14 : ((a0) % 256) ≤ 57
          · rw [if_pos c14] at H
            have c14b0 : decide (((a0) % 256) ≤ 57) = true := decide_eq_true c14
            clear c14
            have H' := Aside0.mk H
            clear H
            go_wp2
            go_meet
            case rel => exact ⟨_, (true), (by first | rfl | (simp; done) | (simp [*]; done)), H', ⟨by first | omega | exact Nat.le_refl _⟩, ⟨by repeat (first | (with_reducible first | exact HB.out | apply below_alloc | apply pw_below_drewN | apply below_drew1) | exact HB.out)⟩⟩
          · rw [if_neg c14] at H
            have c14b0 : decide (((a0) % 256) ≤ 57) = false := decide_eq_false c14
            clear c14
            by_cases c15 : ((a0) % 256) = 45
            · rw [if_pos c15] at H
              have c15b0 : (((a0) % 256) == 45) = true := beq_iff_eq.mpr c15
              have c15b1 : (((a0) % 256) != 45) = false := bne_eq_false_iff_eq.mpr c15
              clear c15
              have H' := Aside0.mk H
              clear H
              go_wp2
              go_meet
              case rel => exact ⟨_, (true), (by first | rfl | (simp; done) | (simp [*]; done)), H', ⟨by first | omega | exact Nat.le_refl _⟩, ⟨by repeat (first | (with_reducible first | exact HB.out | apply below_alloc | apply pw_below_drewN | apply below_drew1) | exact HB.out)⟩⟩
            · rw [if_neg c15] at H
              have c15b0 : (((a0) % 256) == 45) = false := beq_eq_false_iff_ne.mpr c15
              have c15b1 : (((a0) % 256) != 45) = true := bne_iff_ne.mpr c15
              have H' := Aside0.mk H
              clear H
              go_wp2
              go_meet
              case rel => exact ⟨_, ((((a0) % 256) == 95)), (by first | rfl | (simp; done) | (simp [*]; done)), H', ⟨by first | omega | exact Nat.le_refl _⟩, ⟨by repeat (first | (with_reducible first | exact HB.out | apply below_alloc | apply pw_below_drewN | apply below_drew1) | exact HB.out)⟩⟩
        · rw [if_neg c13] at H
          have c13b0 : decide (48 ≤ ((a0) % 256)) = false := decide_eq_false c13
          clear c13
          by_cases c16 : ((a0) % 256) = 45
          · rw [if_pos c16] at H
            have c16b0 : (((a0) % 256) == 45) = true := beq_iff_eq.mpr c16
            have c16b1 : (((a0) % 256) != 45) = false := bne_eq_false_iff_eq.mpr c16
            clear c16
            have H' := Aside0.mk H
            clear H
            go_wp2
            go_meet
            case rel => exact ⟨_, (true), (by first | rfl | (simp; done) | (simp [*]; done)), H', ⟨by first | omega | exact Nat.le_refl _⟩, ⟨by repeat (first | (with_reducible first | exact HB.out | apply below_alloc | apply pw_below_drewN | apply below_drew1) | exact HB.out)⟩⟩
          · rw [if_neg c16] at H
            have c16b0 : (((a0) % 256) == 45) = false := beq_eq_false_iff_ne.mpr c16
            have c16b1 : (((a0) % 256) != 45) = true := bne_iff_ne.mpr c16
            have H' := Aside0.mk H
            clear H
            go_wp2
            go_meet
            case rel => exact ⟨_, ((((a0) % 256) == 95)), (by first | rfl | (simp; done) | (simp [*]; done)), H', ⟨by first | omega | exact Nat.le_refl _⟩, ⟨by repeat (first | (with_reducible first | exact HB.out | apply below_alloc | apply pw_below_drewN | apply below_drew1) | exact HB.out)⟩⟩
    case rest =>
      clear HC5
      try clear c1
      try clear p2
      try clear c4
      try clear c7
      try clear c7b0
      try clear c8
      try clear c8b0
      try clear c9
      try clear c9b0
      try clear c10
      try clear c10b0
      try clear c11
      try clear c11b0
      try clear c11b1
      try clear c12
      try clear c12b0
      try clear c12b1
      try clear c13
      try clear c13b0
      try clear c14
      try clear c14b0
      try clear c15
      try clear c15b0
      try clear c15b1
      try clear c16
      try clear c16b0
      try clear c16b1
      obtain ⟨kq, x6_4, rfl, HA, HJ4, HB⟩ := hcut
      cases kq with
      | zero => exact absurd HA.out (by simp [portagelaw10_NameBytes.j0])
      | succ kj4 =>
        have H := HA.out
        clear HA
        simp only [portagelaw10_NameBytes.j0] at H
        obtain ⟨y114, hy114⟩ : ∃ y_ : List Int, y_ = (([((a0) % 256)] : List Int)) := ⟨_, rfl⟩
        replace H : ((name_May.f (strOfNums y114)).bind fun t117 => (if (t117 != x6_4) = true then (portagelaw10_NameBytes.j1 kj4 a1 ((a0) % 256) x6_4 (strOfNums y114) true) else ((portagelaw0_Num.f 0).bind fun t118 => (portagelaw10_NameBytes.j1 kj4 a1 ((a0) % 256) x6_4 (strOfNums y114) (t118 != 0))))) = some r := by first | (rw [hy114]; with_reducible exact H) | (have H2_ := (Option.bind_some _ _).symm.trans H; rw [hy114]; with_reducible exact H2_) | (have H2_ := (Option.bind_some _ _).symm.trans H; with_reducible exact H2_) | with_reducible exact H | (rw [hy114]; exact H) | exact H
        have Ny114 := Aside0.mk hy114
        clear hy114
        have HC17 := Aside0.mk H
        clear H
        go_upto_region 6 with (first | ((with_reducible refine gate_dst (N := 35) rfl ?_); refine Kd.R_lit (Kd.int .u8) _ 5 ?hg (N := 35) ?hd (xs := ([((a0) % 256)] : List Int)) (inner := [.int .u8 ((a0) % 256)]) (ok := fun _ => True) (okp := fun _ => True) ?hr ?hp (fun _ hk => hk) trivial (Below.refl _ _) (Nat.le_refl _) (by simp) ?_; (case hd => rfl); (case hg => rfl); (case hr => first | (go_simp; done) | (go_simp; rfl)); (case hp => exact (Reps.one (show Kd.M (Kd.int .u8) _ _ _ ((a0) % 256) [.int .u8 ((a0) % 256)] from rfl) (Reps.none _ _))); intro v115 w18 ho19 hb hg_ hnew_; clear hg_ hnew_; (first | rw [← Ny114.out] at ho19 | (simp only [Int.reduceToNat] at ho19; rw [← Ny114.out] at ho19)); have n0_ := Aside0.mk (Kd.R_lower ho19 (below_size (by repeat (first | (with_reducible first | exact HB.out | apply below_alloc | apply pw_below_drewN | apply below_drew1) | exact HB.out)))); have n1_ := Aside0.mk (below_step (by repeat (first | (with_reducible first | exact HB.out | apply below_alloc | apply pw_below_drewN | apply below_drew1) | exact HB.out)) hb); clear HB; have HO116 := n0_; have HB := n1_; clear n0_ n1_; clear hb ho19; have hcv20 := own_string (P := Tryd.prog) Tryd.underlying24 Tryd.underlying5 Tryd.underlying9 (Kd.own_of_R HO116.out)))
        (try simp only [Act.put, List.setIfInBounds_toArray, List.set_cons_zero, List.set_cons_succ])
        go_cut [44] (fun v44 wc => ∃ (kq : Nat) (x44_16 : Bool), v44 = .bool x44_16 ∧ Aside0 (portagelaw10_NameBytes.j1 kq a1 ((a0) % 256) x6_4 (strOfNums y114) x44_16 = some r) ∧ Aside0 (kq ≤ kj4) ∧ Aside0 (Below w.heap.size w wc))
        case first =>
          have H := HC17.out
          clear HC17
          replace H := Option.bind_eq_some_iff.mp H
          obtain ⟨t117, A210, H⟩ := H
          replace H : (if (t117 != x6_4) = true then (portagelaw10_NameBytes.j1 kj4 a1 ((a0) % 256) x6_4 (strOfNums y114) true) else ((portagelaw0_Num.f 0).bind fun t118 => (portagelaw10_NameBytes.j1 kj4 a1 ((a0) % 256) x6_4 (strOfNums y114) (t118 != 0)))) = some r := H
          have A21 := Aside0.mk A210
          clear A210
          by_cases c22 : (t117 != x6_4) = true
          · rw [if_pos c22] at H
            have c22b0 : (t117 != x6_4) = true := c22
            (try (have c22b1 : decide (t117 = x6_4) = false := by simpa using c22))
            (try (have c22b2 : (t117 == x6_4) = false := by simpa using c22))
            (try (have c22b3 : ¬ (t117 = x6_4) := by simpa using c22))
            clear c22
            (first | rw [c22b0] | (simp only [i64_w, i32_w]; rw [c22b0]) | skip)
            have H' := Aside0.mk H
            clear H
            go_wp2_with (first | ((with_reducible refine gate_callee (f := 6) rfl ?_); refine goesL_ (some 38) rfl rfl Tryd.func6 (by kernel_rfl) rfl #[.string (strOfNums y114)] rfl (by (try simp only [List.map_toArray, List.map_cons, List.map_nil]); first | done | rfl | (simp only [List.length_drop, List.length_take]; rfl)) ?_; (with_reducible refine (name_May.calls (strOfNums y114) t117 _ A21.out).mono ?_); rintro e w23 ⟨rfl, hb⟩; refine ⟨_, rfl, ?_⟩; have n0_ := Aside0.mk (Kd.R_below (by (with_reducible repeat (first | apply Kd.R_alloc | apply Kd.R_drewN | apply Kd.R_drew)); exact HO116.out) hb); have n1_ := Aside0.mk (below_step (by repeat (first | (with_reducible first | exact HB.out | apply below_alloc | apply pw_below_drewN | apply below_drew1) | exact HB.out)) hb); clear HO116; clear HB; have HO116 := n0_; have HB := n1_; clear n0_ n1_; (try clear hb); (try clear hb2); (try clear hk); (try clear hi)))
            go_meet
            case rel => exact ⟨_, (true), (by first | rfl | (simp; done) | (simp [*]; done)), H', ⟨by have := HJ4.out; first | omega | exact Nat.le_refl _⟩, ⟨by repeat (first | (with_reducible first | exact HB.out | apply below_alloc | apply pw_below_drewN | apply below_drew1) | exact HB.out)⟩⟩
          · rw [if_neg c22] at H
            have c22b0 : (t117 != x6_4) = false := by simpa using c22
            (try (have c22b1 : decide (t117 = x6_4) = true := by simpa using c22))
            (try (have c22b2 : (t117 == x6_4) = true := by simpa using c22))
            clear c22
            (first | rw [c22b0] | (simp only [i64_w, i32_w]; rw [c22b0]) | skip)
            replace H := Option.bind_eq_some_iff.mp H
            obtain ⟨t118, A240, H⟩ := H
            replace H : (portagelaw10_NameBytes.j1 kj4 a1 ((a0) % 256) x6_4 (strOfNums y114) (t118 != 0)) = some r := H
            have A24 := Aside0.mk A240
            clear A240
            have H' := Aside0.mk H
            clear H
            go_wp2_with (first | ((with_reducible refine gate_callee (f := 6) rfl ?_); refine goesL_ (some 38) rfl rfl Tryd.func6 (by kernel_rfl) rfl #[.string (strOfNums y114)] rfl (by (try simp only [List.map_toArray, List.map_cons, List.map_nil]); first | done | rfl | (simp only [List.length_drop, List.length_take]; rfl)) ?_; (with_reducible refine (name_May.calls (strOfNums y114) t117 _ A21.out).mono ?_); rintro e w25 ⟨rfl, hb⟩; refine ⟨_, rfl, ?_⟩; have n0_ := Aside0.mk (Kd.R_below (by (with_reducible repeat (first | apply Kd.R_alloc | apply Kd.R_drewN | apply Kd.R_drew)); exact HO116.out) hb); have n1_ := Aside0.mk (below_step (by repeat (first | (with_reducible first | exact HB.out | apply below_alloc | apply pw_below_drewN | apply below_drew1) | exact HB.out)) hb); clear HO116; clear HB; have HO116 := n0_; have HB := n1_; clear n0_ n1_; (try clear hb); (try clear hb2); (try clear hk); (try clear hi)) | (go_at_call 9; (with_reducible refine (portagelaw0_Num.calls 0 t118 _ A24.out).mono ?_); rintro e w' ⟨rfl, ⟨nd, rfl⟩⟩))
            go_meet
            case rel => exact ⟨_, ((t118 != 0)), (by first | rfl | (simp; done) | (simp [*]; done)), H', ⟨by have := HJ4.out; first | omega | exact Nat.le_refl _⟩, ⟨by repeat (first | (with_reducible first | exact HB.out | apply below_alloc | apply pw_below_drewN | apply below_drew1) | exact HB.out)⟩⟩
        case rest =>
          clear HC17
          try clear c1
          try clear c2
          try clear p2
          try clear hcv2
          try clear c4
          try clear c6
          try clear c7
          try clear c7b0
          try clear c8
          try clear c8b0
          try clear c9
          try clear c9b0
          try clear c10
          try clear c10b0
          try clear c11
          try clear c11b0
          try clear c11b1
          try clear c12
          try clear c12b0
          try clear c12b1
          try clear c13
          try clear c13b0
          try clear c14
          try clear c14b0
          try clear c15
          try clear c15b0
          try clear c15b1
          try clear c16
          try clear c16b0
          try clear c16b1
          try clear hcv20
          try clear c22
          try clear c22b0
          try clear c22b1
          try clear c22b2
          try clear p2
          obtain ⟨kq, x44_16, rfl, HA, HJ16, HB⟩ := hcut
          cases kq with
          | zero => exact absurd HA.out (by simp [portagelaw10_NameBytes.j1])
          | succ kj16 =>
            have H := HA.out
            clear HA
            simp only [portagelaw10_NameBytes.j1] at H
            by_cases c26 : x44_16 = true
            · subst c26
              have H1 : (none) = some r := by rw [if_pos rfl] at H; exact H
              clear H
              have H := H1
              clear H1
              exact absurd H (by simp)
            · replace c26 := Bool.eq_false_iff.mpr c26
              subst c26
              have H1 : (if x6_4 = true then (portagelaw10_NameBytes.j2 kj16 a1 (strOfNums y114) false) else (portagelaw10_NameBytes.j2 kj16 a1 (strOfNums y114) (((a0) % 256) != 46))) = some r := by rw [if_neg (show ¬ (false = true) by decide)] at H; exact H
              clear H
              have H := H1
              clear H1
              have HC27 := Aside0.mk H
              clear H
              go_upto_region 8 with (fail)
              go_cut [50] (fun v50 wc => ∃ (kq : Nat) (x50_26 : Bool), v50 = .bool x50_26 ∧ Aside0 (portagelaw10_NameBytes.j2 kq a1 (strOfNums y114) x50_26 = some r) ∧ Aside0 (kq ≤ kj16) ∧ Aside0 (Below w.heap.size w wc))
              case first =>
                have H := HC27.out
                clear HC27
                by_cases c28 : x6_4 = true
                · subst c28
                  have H1 : (portagelaw10_NameBytes.j2 kj16 a1 (strOfNums y114) false) = some r := by rw [if_pos rfl] at H; exact H
                  clear H
                  have H := H1
                  clear H1
                  have H' := Aside0.mk H
                  clear H
                  go_wp2
                  go_meet
                  case rel => exact ⟨_, (false), (by first | rfl | (simp; done) | (simp [*]; done)), H', ⟨by have := HJ4.out; have := HJ16.out; first | omega | exact Nat.le_refl _⟩, ⟨by repeat (first | (with_reducible first | exact HB.out | apply below_alloc | apply pw_below_drewN | apply below_drew1) | exact HB.out)⟩⟩
                · replace c28 := Bool.eq_false_iff.mpr c28
                  subst c28
                  have H1 : (portagelaw10_NameBytes.j2 kj16 a1 (strOfNums y114) (((a0) % 256) != 46)) = some r := by rw [if_neg (show ¬ (false = true) by decide)] at H; exact H
                  clear H
                  have H := H1
                  clear H1
                  have H' := Aside0.mk H
                  clear H
                  go_wp2
                  go_meet
                  case rel => exact ⟨_, ((((a0) % 256) != 46)), (by first | rfl | (simp; done) | (simp [*]; done)), H', ⟨by have := HJ4.out; have := HJ16.out; first | omega | exact Nat.le_refl _⟩, ⟨by repeat (first | (with_reducible first | exact HB.out | apply below_alloc | apply pw_below_drewN | apply below_drew1) | exact HB.out)⟩⟩
              case rest =>
                clear HC27
                try clear c1
                try clear c2
                try clear p2
                try clear hcv2
                try clear c4
                try clear c6
                try clear c7
                try clear c7b0
                try clear c8
                try clear c8b0
                try clear c9
                try clear c9b0
                try clear c10
                try clear c10b0
                try clear c11
                try clear c11b0
                try clear c11b1
                try clear c12
                try clear c12b0
                try clear c12b1
                try clear c13
                try clear c13b0
                try clear c14
                try clear c14b0
                try clear c15
                try clear c15b0
                try clear c15b1
                try clear c16
                try clear c16b0
                try clear c16b1
                try clear hcv20
                try clear c22
                try clear c22b0
                try clear c22b1
                try clear c22b2
                try clear c26
                try clear c28
                try clear p2
                obtain ⟨kq, x50_26, rfl, HA, HJ26, HB⟩ := hcut
                cases kq with
                | zero => exact absurd HA.out (by simp [portagelaw10_NameBytes.j2])
                | succ kj26 =>
                  have H := HA.out
                  clear HA
                  simp only [portagelaw10_NameBytes.j2] at H
                  by_cases c29 : x50_26 = true
                  · subst c29
                    have H1 : (if 1 + (strOfNums y114).size ≤ 9223372036854775807 then ((name_May.f ((⟨#[97]⟩ : ByteArray) ++ (strOfNums y114))).bind fun t119 => (if t119 = true then (none) else (if (strOfNums y114).size + 1 ≤ 9223372036854775807 then ((name_May.f ((strOfNums y114) ++ (⟨#[97]⟩ : ByteArray))).bind fun t120 => (if t120 = true then (none) else (if a1.size + (strOfNums y114).size ≤ 9223372036854775807 then ((name_May.f (a1 ++ (strOfNums y114))).bind fun t121 => (some (!t121))) else (none)))) else (none)))) else (none)) = some r := by rw [if_pos rfl] at H; exact H
                    clear H
                    have H := H1
                    clear H1
                    by_cases c30 : 1 + (strOfNums y114).size ≤ 9223372036854775807
                    · rw [if_pos c30] at H
                      have c30b0 := eq_true c30
                      have c30b1 : decide (1 + (strOfNums y114).size ≤ 9223372036854775807) = true := decide_eq_true c30
                      try have c30b2 : (9223372036854775807 < 1 + (strOfNums y114).size) = False := eq_false (Nat.not_lt.2 c30)
                      replace H := Option.bind_eq_some_iff.mp H
                      obtain ⟨t119, A310, H⟩ := H
                      replace H : (if t119 = true then (none) else (if (strOfNums y114).size + 1 ≤ 9223372036854775807 then ((name_May.f ((strOfNums y114) ++ (⟨#[97]⟩ : ByteArray))).bind fun t120 => (if t120 = true then (none) else (if a1.size + (strOfNums y114).size ≤ 9223372036854775807 then ((name_May.f (a1 ++ (strOfNums y114))).bind fun t121 => (some (!t121))) else (none)))) else (none))) = some r := H
                      have A31 := Aside0.mk A310
                      clear A310
                      by_cases c32 : t119 = true
                      · subst c32
                        have H1 : (none) = some r := by rw [if_pos rfl] at H; exact H
                        clear H
                        have H := H1
                        clear H1
                        exact absurd H (by simp)
                      · replace c32 := Bool.eq_false_iff.mpr c32
                        subst c32
                        have H1 : (if (strOfNums y114).size + 1 ≤ 9223372036854775807 then ((name_May.f ((strOfNums y114) ++ (⟨#[97]⟩ : ByteArray))).bind fun t120 => (if t120 = true then (none) else (if a1.size + (strOfNums y114).size ≤ 9223372036854775807 then ((name_May.f (a1 ++ (strOfNums y114))).bind fun t121 => (some (!t121))) else (none)))) else (none)) = some r := by rw [if_neg (show ¬ (false = true) by decide)] at H; exact H
                        clear H
                        have H := H1
                        clear H1
                        by_cases c33 : (strOfNums y114).size + 1 ≤ 9223372036854775807
                        · rw [if_pos c33] at H
                          have c33b0 := eq_true c33
                          have c33b1 : decide ((strOfNums y114).size + 1 ≤ 9223372036854775807) = true := decide_eq_true c33
                          try have c33b2 : (9223372036854775807 < (strOfNums y114).size + 1) = False := eq_false (Nat.not_lt.2 c33)
                          replace H := Option.bind_eq_some_iff.mp H
                          obtain ⟨t120, A340, H⟩ := H
                          replace H : (if t120 = true then (none) else (if a1.size + (strOfNums y114).size ≤ 9223372036854775807 then ((name_May.f (a1 ++ (strOfNums y114))).bind fun t121 => (some (!t121))) else (none))) = some r := H
                          have A34 := Aside0.mk A340
                          clear A340
                          by_cases c35 : t120 = true
                          · subst c35
                            have H1 : (none) = some r := by rw [if_pos rfl] at H; exact H
                            clear H
                            have H := H1
                            clear H1
                            exact absurd H (by simp)
                          · replace c35 := Bool.eq_false_iff.mpr c35
                            subst c35
                            have H1 : (if a1.size + (strOfNums y114).size ≤ 9223372036854775807 then ((name_May.f (a1 ++ (strOfNums y114))).bind fun t121 => (some (!t121))) else (none)) = some r := by rw [if_neg (show ¬ (false = true) by decide)] at H; exact H
                            clear H
                            have H := H1
                            clear H1
                            by_cases c36 : a1.size + (strOfNums y114).size ≤ 9223372036854775807
                            · rw [if_pos c36] at H
                              have c36b0 := eq_true c36
                              have c36b1 : decide (a1.size + (strOfNums y114).size ≤ 9223372036854775807) = true := decide_eq_true c36
                              try have c36b2 : (9223372036854775807 < a1.size + (strOfNums y114).size) = False := eq_false (Nat.not_lt.2 c36)
                              replace H := Option.bind_eq_some_iff.mp H
                              obtain ⟨t121, A370, H⟩ := H
                              replace H : (some (!t121)) = some r := H
                              have A37 := Aside0.mk A370
                              clear A370
                              obtain rfl := Option.some.inj H
                              go_wp2_with (first | ((with_reducible refine gate_callee (f := 6) rfl ?_); refine goesL_ (some 53) rfl rfl Tryd.func6 (by kernel_rfl) rfl #[.string ((⟨#[97]⟩ : ByteArray) ++ (strOfNums y114))] rfl (by (try simp only [List.map_toArray, List.map_cons, List.map_nil]); first | done | rfl | (simp only [List.length_drop, List.length_take]; rfl)) ?_; (with_reducible refine (name_May.calls ((⟨#[97]⟩ : ByteArray) ++ (strOfNums y114)) false _ A31.out).mono ?_); rintro e w38 ⟨rfl, hb⟩; refine ⟨_, rfl, ?_⟩; have n0_ := Aside0.mk (below_step (by repeat (first | (with_reducible first | exact HB.out | apply below_alloc | apply pw_below_drewN | apply below_drew1) | exact HB.out)) hb); clear HB; have HB := n0_; clear n0_; (try clear hb); (try clear hb2); (try clear hk); (try clear hi)) | (go_at_call 6; (with_reducible refine (name_May.calls ((strOfNums y114) ++ (⟨#[97]⟩ : ByteArray)) false _ A34.out).mono ?_); rintro e w39 ⟨rfl, hb⟩; have n0_ := Aside0.mk (below_step (by repeat (first | (with_reducible first | exact HB.out | apply below_alloc | apply pw_below_drewN | apply below_drew1) | exact HB.out)) hb); clear HB; have HB := n0_; clear n0_; (try clear hb); (try clear hb2); (try clear hk); (try clear hi)) | (go_at_call 6; (with_reducible refine (name_May.calls (a1 ++ (strOfNums y114)) t121 _ A37.out).mono ?_); rintro e w40 ⟨rfl, hb⟩; have n0_ := Aside0.mk (below_step (by repeat (first | (with_reducible first | exact HB.out | apply below_alloc | apply pw_below_drewN | apply below_drew1) | exact HB.out)) hb); clear HB; have HB := n0_; clear n0_; (try clear hb); (try clear hb2); (try clear hk); (try clear hi)))
                              go_ret
                              exact ⟨by first | rfl | (simp [errW_none, errW_some] <;> rfl) | (simp [*, errW_none, errW_some] <;> rfl), by repeat (first | (with_reducible first | exact HB.out | apply below_alloc | apply pw_below_drewN | apply below_drew1) | exact HB.out)⟩
                            · rw [if_neg c36] at H
                              exact absurd H (by simp)
                        · rw [if_neg c33] at H
                          exact absurd H (by simp)
                    · rw [if_neg c30] at H
                      exact absurd H (by simp)
                  · replace c29 := Bool.eq_false_iff.mpr c29
                    subst c29
                    have H1 : (if 1 + (strOfNums y114).size ≤ 9223372036854775807 then ((name_May.f ((⟨#[97]⟩ : ByteArray) ++ (strOfNums y114))).bind fun t122 => (if t122 = true then (if ((⟨#[97]⟩ : ByteArray) ++ (strOfNums y114)).size + 1 ≤ 9223372036854775807 then ((name_May.f (((⟨#[97]⟩ : ByteArray) ++ (strOfNums y114)) ++ (⟨#[97]⟩ : ByteArray))).bind fun t123 => (some t123)) else (none)) else (none))) else (none)) = some r := by rw [if_neg (show ¬ (false = true) by decide)] at H; exact H
                    clear H
                    have H := H1
                    clear H1
                    by_cases c41 : 1 + (strOfNums y114).size ≤ 9223372036854775807
                    · rw [if_pos c41] at H
                      have c41b0 := eq_true c41
                      have c41b1 : decide (1 + (strOfNums y114).size ≤ 9223372036854775807) = true := decide_eq_true c41
                      try have c41b2 : (9223372036854775807 < 1 + (strOfNums y114).size) = False := eq_false (Nat.not_lt.2 c41)
                      replace H := Option.bind_eq_some_iff.mp H
                      obtain ⟨t122, A420, H⟩ := H
                      replace H : (if t122 = true then (if ((⟨#[97]⟩ : ByteArray) ++ (strOfNums y114)).size + 1 ≤ 9223372036854775807 then ((name_May.f (((⟨#[97]⟩ : ByteArray) ++ (strOfNums y114)) ++ (⟨#[97]⟩ : ByteArray))).bind fun t123 => (some t123)) else (none)) else (none)) = some r := H
                      have A42 := Aside0.mk A420
                      clear A420
                      by_cases c43 : t122 = true
                      · subst c43
                        have H1 : (if ((⟨#[97]⟩ : ByteArray) ++ (strOfNums y114)).size + 1 ≤ 9223372036854775807 then ((name_May.f (((⟨#[97]⟩ : ByteArray) ++ (strOfNums y114)) ++ (⟨#[97]⟩ : ByteArray))).bind fun t123 => (some t123)) else (none)) = some r := by rw [if_pos rfl] at H; exact H
                        clear H
                        have H := H1
                        clear H1
                        by_cases c44 : ((⟨#[97]⟩ : ByteArray) ++ (strOfNums y114)).size + 1 ≤ 9223372036854775807
                        · rw [if_pos c44] at H
                          have c44b0 := eq_true c44
                          have c44b1 : decide (((⟨#[97]⟩ : ByteArray) ++ (strOfNums y114)).size + 1 ≤ 9223372036854775807) = true := decide_eq_true c44
                          try have c44b2 : (9223372036854775807 < ((⟨#[97]⟩ : ByteArray) ++ (strOfNums y114)).size + 1) = False := eq_false (Nat.not_lt.2 c44)
                          have c44b9 : (9223372036854775807 < ((⟨#[97]⟩ : ByteArray) ++ (strOfNums y114)).size + 1) = False := eq_false (Nat.not_lt.2 c44)
                          (try simp only [ByteArray.size_append, show (⟨#[97]⟩ : ByteArray).size = 1 from rfl] at c44b9)
                          replace H := Option.bind_eq_some_iff.mp H
                          obtain ⟨t123, A450, H⟩ := H
                          replace H : (some t123) = some r := H
                          have A45 := Aside0.mk A450
                          clear A450
                          obtain rfl := Option.some.inj H
                          go_wp2_with (first | ((with_reducible refine gate_callee (f := 6) rfl ?_); refine goesL_ (some 70) rfl rfl Tryd.func6 (by kernel_rfl) rfl #[.string ((⟨#[97]⟩ : ByteArray) ++ (strOfNums y114))] rfl (by (try simp only [List.map_toArray, List.map_cons, List.map_nil]); first | done | rfl | (simp only [List.length_drop, List.length_take]; rfl)) ?_; (with_reducible refine (name_May.calls ((⟨#[97]⟩ : ByteArray) ++ (strOfNums y114)) true _ A42.out).mono ?_); rintro e w46 ⟨rfl, hb⟩; refine ⟨_, rfl, ?_⟩; have n0_ := Aside0.mk (below_step (by repeat (first | (with_reducible first | exact HB.out | apply below_alloc | apply pw_below_drewN | apply below_drew1) | exact HB.out)) hb); clear HB; have HB := n0_; clear n0_; (try clear hb); (try clear hb2); (try clear hk); (try clear hi)) | (go_at_call 6; (with_reducible refine (name_May.calls (((⟨#[97]⟩ : ByteArray) ++ (strOfNums y114)) ++ (⟨#[97]⟩ : ByteArray)) t123 _ A45.out).mono ?_); rintro e w47 ⟨rfl, hb⟩; have n0_ := Aside0.mk (below_step (by repeat (first | (with_reducible first | exact HB.out | apply below_alloc | apply pw_below_drewN | apply below_drew1) | exact HB.out)) hb); clear HB; have HB := n0_; clear n0_; (try clear hb); (try clear hb2); (try clear hk); (try clear hi)))
                          go_ret
                          exact ⟨by first | rfl | (simp [errW_none, errW_some] <;> rfl) | (simp [*, errW_none, errW_some] <;> rfl), by repeat (first | (with_reducible first | exact HB.out | apply below_alloc | apply pw_below_drewN | apply below_drew1) | exact HB.out)⟩
                        · rw [if_neg c44] at H
                          exact absurd H (by simp)
                      · replace c43 := Bool.eq_false_iff.mpr c43
                        subst c43
                        have H1 : (none) = some r := by rw [if_neg (show ¬ (false = true) by decide)] at H; exact H
                        clear H
                        have H := H1
                        clear H1
                        exact absurd H (by simp)
                    · rw [if_neg c41] at H
                      exact absurd H (by simp)
  · replace c4 := Bool.eq_false_iff.mpr c4
    subst c4
    have H1 : (none) = some r := by rw [if_neg (show ¬ (false = true) by decide)] at H; exact H
    clear H
    have H := H1
    clear H1
    exact absurd H (by simp)

/-- THE ONE PURE STATEMENT of portagelaw10_NameBytes: yours. -/
def portagelaw10_NameBytes.Pure : Prop := ∀ (a0 : Int) (a1 : ByteArray), (Lit.int .i64 a0).wf = true → a1.size ≤ 140737488351232 → ∃ k, portagelaw10_NameBytes.f k a0 a1 = some true
theorem portagelaw10_NameBytes.walk (P : portagelaw10_NameBytes.Pure) (a0 : Int) (a1 : ByteArray) (w : World) (w0 : (Lit.int .i64 a0).wf = true) (w1 : a1.size ≤ 140737488351232) :
    Calls Tryd.prog 4 #[.int .i64 a0, .string a1] w fun e w' => e = .returned (.bool true) ∧ Below w.heap.size w w' := by
  obtain ⟨k, h⟩ := P a0 a1 w0 w1
  refine (portagelaw10_NameBytes.calls k a0 a1 true w h).mono ?_
  rintro e w' ⟨rfl, hd⟩
  exact ⟨rfl, hd⟩

end Go.Proofs.YtdccnjinehcenaaDoor.N
