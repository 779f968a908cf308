-- Written by a program of this session out of the translation (a changed copy of the kit's printer).
import Derived.Test.YtdccnjinehcenaaDD0
import Derived.Test.YtdccnjinehcenaaDD1
import Derived.Test.YtdccnjinehcenaaDD8
import Derived.Test.YtdccnjinehcenaaOwn
namespace Go.Proofs.Ytdccnjinehcenaa.DD
open Go.RowKit Go.Proofs.YtdccnjinehcenaaW.PrintWords Go.Proofs.YtdccnjinehcenaaW.PrintLast Go.Proofs.YtdccnjinehcenaaW.PrintMore
attribute [local go_sem] max2_int min2_int max_two min_two max_three min_three max_four min_four   -- for this text's walks alone
set_option linter.unusedVariables false
set_option linter.unusedSimpArgs false

attribute [local go_sem high] eqA42
-- IMPORT Derived.Test.YtdccnjinehcenaaOwn
/-! ### portagelaw0_KeptWrites: function 23 -/
def portagelaw0_KeptWrites.f (k : Nat) (l0 : List (S42)) (t0 : List (S42)) (l1 : List (S42)) : Option (Bool) := if 0 ≤ (wrap64 ((l0.length : Int) + 2)) then (if (wrap64 ((l0.length : Int) + 2)) ≤ (t0.length : Int) then ((some (t0.take ((wrap64 ((l0.length : Int) + 2)) : Int).toNat : List (S42))).bind fun y190 => ((portagelaw0_SameWrites.f k l0 l1).bind fun t194 => (if t194 = true then (if 0 ≤ (l1.length : Int) then (if (l1.length : Int) < (y190.length : Int) then (if (((rd_T42 y190 (l1.length : Int)).f0) == 77777 && ((((rd_T42 y190 (l1.length : Int)).f1).toList) == ([] : List UInt8))) = true then (if 0 ≤ (wrap64 ((l1.length : Int) + 1)) then (if (wrap64 ((l1.length : Int) + 1)) < (y190.length : Int) then (some (((rd_T42 y190 (wrap64 ((l1.length : Int) + 1))).f0) == 77777 && ((((rd_T42 y190 (wrap64 ((l1.length : Int) + 1))).f1).toList) == ([] : List UInt8)))) else (none)) else (none)) else (some false)) else (none)) else (none)) else (some false)))) else (none)) else (none)
theorem portagelaw0_KeptWrites.mono : ∀ a0 t0 a1 k, LeO (portagelaw0_KeptWrites.f k a0 t0 a1) (portagelaw0_KeptWrites.f (k + 1) a0 t0 a1) := by
  intro a0 t0 a1 k
  unfold portagelaw0_KeptWrites.f
  repeat' first
      | (with_reducible exact portagelaw0_SameWrites.mono _ _ _)
      | (with_reducible exact LeO.refl _)
      | (with_reducible exact LeO.none _)
      | (with_reducible refine LeO.ite ?_ ?_)
      | (with_reducible refine LeO.bind ?_ (fun _ => ?_))
      | exact portagelaw0_SameWrites.mono _ _ _
      | exact LeO.none _
      | refine LeO.ite ?_ ?_
      | refine LeO.bind ?_ (fun _ => ?_)
set_option maxHeartbeats 8000000 in
set_option maxRecDepth 100000 in
theorem portagelaw0_KeptWrites.calls (k : Nat) (A0 : Option Addr) (c0 : Nat) (l0 : List (S42)) (t0 : List (S42)) (A1 : Option Addr) (c1 : Nat) (l1 : List (S42)) (r : Bool) (w : World) (hr0 : Kd.C k42 w A0 l0.length l0) (hc0 : l0.length ≤ c0) (hrt : Kd.C k42 w A0 t0.length t0) (hct : t0.length ≤ c0) (hr1 : Kd.C k42 w A1 l1.length l1) (hc1 : l1.length ≤ c1) (h : portagelaw0_KeptWrites.f k l0 t0 l1 = some r) :
    Calls Try.prog 23 #[.slice A0 l0.length c0, .slice A1 l1.length c1] w fun e w' => e = .returned (.bool r) ∧ Drawn0 w w' := by
  have hu42 := Try.underlying42
  have HR0 := Aside0.mk hr0
  have HC0 := Aside0.mk hc0
  clear hr0 hc0
  have HRt := Aside0.mk hrt
  have HCt := Aside0.mk hct
  clear hrt hct
  have HR1 := Aside0.mk hr1
  have HC1 := Aside0.mk hc1
  clear hr1 hc1
  have H : (if 0 ≤ (wrap64 ((l0.length : Int) + 2)) then (if (wrap64 ((l0.length : Int) + 2)) ≤ (t0.length : Int) then ((some (t0.take ((wrap64 ((l0.length : Int) + 2)) : Int).toNat : List (S42))).bind fun y190 => ((portagelaw0_SameWrites.f k l0 l1).bind fun t194 => (if t194 = true then (if 0 ≤ (l1.length : Int) then (if (l1.length : Int) < (y190.length : Int) then (if (((rd_T42 y190 (l1.length : Int)).f0) == 77777 && ((((rd_T42 y190 (l1.length : Int)).f1).toList) == ([] : List UInt8))) = true then (if 0 ≤ (wrap64 ((l1.length : Int) + 1)) then (if (wrap64 ((l1.length : Int) + 1)) < (y190.length : Int) then (some (((rd_T42 y190 (wrap64 ((l1.length : Int) + 1))).f0) == 77777 && ((((rd_T42 y190 (wrap64 ((l1.length : Int) + 1))).f1).toList) == ([] : List UInt8)))) else (none)) else (none)) else (some false)) else (none)) else (none)) else (some false)))) else (none)) else (none)) = some r := h
  clear h
  obtain ⟨ji3, hji3⟩ : ∃ j_ : Int, (wrap64 ((l0.length : Int) + 2)) = j_ := ⟨_, rfl⟩
  replace H : (if 0 ≤ (ji3) then (if (ji3) ≤ (t0.length : Int) then ((some (t0.take ((ji3) : Int).toNat : List (S42))).bind fun y190 => ((portagelaw0_SameWrites.f k l0 l1).bind fun t194 => (if t194 = true then (if 0 ≤ (l1.length : Int) then (if (l1.length : Int) < (y190.length : Int) then (if (((rd_T42 y190 (l1.length : Int)).f0) == 77777 && ((((rd_T42 y190 (l1.length : Int)).f1).toList) == ([] : List UInt8))) = true then (if 0 ≤ (wrap64 ((l1.length : Int) + 1)) then (if (wrap64 ((l1.length : Int) + 1)) < (y190.length : Int) then (some (((rd_T42 y190 (wrap64 ((l1.length : Int) + 1))).f0) == 77777 && ((((rd_T42 y190 (wrap64 ((l1.length : Int) + 1))).f1).toList) == ([] : List UInt8)))) else (none)) else (none)) else (some false)) else (none)) else (none)) else (some false)))) else (none)) else (none)) = some r := by first | (rw [hji3] at H; exact H) | (simp only [hji3] at H ⊢; exact H)
  have hji3w : (IntKind.i64.wrap ((l0.length : Int) + 2)) = ji3 := (i64_w _).trans hji3
  by_cases c4 : 0 ≤ (ji3)
  · rw [if_pos c4] at H
    have c4b0 := eq_true c4
    have c4b1 : decide (0 ≤ (ji3)) = true := decide_eq_true c4
    clear c4
    by_cases c5 : (ji3) ≤ (t0.length : Int)
    · rw [if_pos c5] at H
      have c5b0 := eq_true c5
      have c5b1 : decide ((ji3) ≤ (t0.length : Int)) = true := decide_eq_true c5
      clear c5
      obtain ⟨y190, hy190⟩ : ∃ y_ : List (S42), y_ = (t0.take ((ji3) : Int).toNat) := ⟨_, rfl⟩
      replace H : ((portagelaw0_SameWrites.f k l0 l1).bind fun t194 => (if t194 = true then (if 0 ≤ (l1.length : Int) then (if (l1.length : Int) < (y190.length : Int) then (if (((rd_T42 y190 (l1.length : Int)).f0) == 77777 && ((((rd_T42 y190 (l1.length : Int)).f1).toList) == ([] : List UInt8))) = true then (if 0 ≤ (wrap64 ((l1.length : Int) + 1)) then (if (wrap64 ((l1.length : Int) + 1)) < (y190.length : Int) then (some (((rd_T42 y190 (wrap64 ((l1.length : Int) + 1))).f0) == 77777 && ((((rd_T42 y190 (wrap64 ((l1.length : Int) + 1))).f1).toList) == ([] : List UInt8)))) else (none)) else (none)) else (some false)) else (none)) else (none)) else (some false))) = some r := by first | (rw [hy190]; with_reducible exact H) | (have H2_ := (Option.bind_some _ _).symm.trans H; rw [hy190]; with_reducible exact H2_) | (have H2_ := (Option.bind_some _ _).symm.trans H; with_reducible exact H2_) | with_reducible exact H | (rw [hy190]; exact H) | exact H
      have Ny190 := Aside0.mk hy190
      clear hy190
      replace H := Option.bind_eq_some_iff.mp H
      obtain ⟨t194, A60, H⟩ := H
      replace H : (if t194 = true then (if 0 ≤ (l1.length : Int) then (if (l1.length : Int) < (y190.length : Int) then (if (((rd_T42 y190 (l1.length : Int)).f0) == 77777 && ((((rd_T42 y190 (l1.length : Int)).f1).toList) == ([] : List UInt8))) = true then (if 0 ≤ (wrap64 ((l1.length : Int) + 1)) then (if (wrap64 ((l1.length : Int) + 1)) < (y190.length : Int) then (some (((rd_T42 y190 (wrap64 ((l1.length : Int) + 1))).f0) == 77777 && ((((rd_T42 y190 (wrap64 ((l1.length : Int) + 1))).f1).toList) == ([] : List UInt8)))) else (none)) else (none)) else (some false)) else (none)) else (none)) else (some false)) = some r := H
      have A6 := Aside0.mk A60
      clear A60
      by_cases c7 : t194 = true
      · subst c7
        have H1 : (if 0 ≤ (l1.length : Int) then (if (l1.length : Int) < (y190.length : Int) then (if (((rd_T42 y190 (l1.length : Int)).f0) == 77777 && ((((rd_T42 y190 (l1.length : Int)).f1).toList) == ([] : List UInt8))) = true then (if 0 ≤ (wrap64 ((l1.length : Int) + 1)) then (if (wrap64 ((l1.length : Int) + 1)) < (y190.length : Int) then (some (((rd_T42 y190 (wrap64 ((l1.length : Int) + 1))).f0) == 77777 && ((((rd_T42 y190 (wrap64 ((l1.length : Int) + 1))).f1).toList) == ([] : List UInt8)))) else (none)) else (none)) else (some false)) else (none)) else (none)) = some r := by rw [if_pos rfl] at H; exact H
        clear H
        have H := H1
        clear H1
        by_cases c8 : 0 ≤ (l1.length : Int)
        · rw [if_pos c8] at H
          have c8b0 : decide (0 ≤ (l1.length : Int)) = true := decide_eq_true c8
          have c8b1 : decide (0 ≤ l1.length) = true := decide_eq_true (by omega)
          clear c8
          by_cases c9 : (l1.length : Int) < (y190.length : Int)
          · rw [if_pos c9] at H
            have c9b0 : decide ((l1.length : Int) < (y190.length : Int)) = true := decide_eq_true c9
            have c9b1 : decide (l1.length < y190.length) = true := decide_eq_true (Int.ofNat_lt.mp c9)
            clear c9
            by_cases c10 : (((rd_T42 y190 (l1.length : Int)).f0) == 77777 && ((((rd_T42 y190 (l1.length : Int)).f1).toList) == ([] : List UInt8))) = true
            · rw [if_pos c10] at H
              have c10b0 : (((rd_T42 y190 (l1.length : Int)).f0) == 77777 && ((((rd_T42 y190 (l1.length : Int)).f1).toList) == ([] : List UInt8))) = true := c10
              (try (have c10b1 : decide (((rd_T42 y190 (l1.length : Int)).f0) = 77777 && ((((rd_T42 y190 (l1.length : Int)).f1).toList) == ([] : List UInt8))) = true := by simpa using c10))
              (try (have c10b2 : (((rd_T42 y190 (l1.length : Int)).f0) == 77777 && ((((rd_T42 y190 (l1.length : Int)).f1).toList) == ([] : List UInt8))) = true := by simpa using c10))
              (try (have c10b3 : (((rd_T42 y190 (l1.length : Int)).f0) == 77777 && ((((rd_T42 y190 (l1.length : Int)).f1).toList).isEmpty)) = true := by simpa using c10))
              (try (have c10b4 : (((rd_T42 y190 (l1.length : Int)).f0) = 77777 ∧ ((((rd_T42 y190 (l1.length : Int)).f1).toList) = ([] : List UInt8))) = True := eq_true (by simpa using c10)))
              clear c10
              obtain ⟨ji11, hji11⟩ : ∃ j_ : Int, (wrap64 ((l1.length : Int) + 1)) = j_ := ⟨_, rfl⟩
              replace H : (if 0 ≤ (ji11) then (if (ji11) < (y190.length : Int) then (some (((rd_T42 y190 (ji11)).f0) == 77777 && ((((rd_T42 y190 (ji11)).f1).toList) == ([] : List UInt8)))) else (none)) else (none)) = some r := by first | (rw [hji11] at H; exact H) | (simp only [hji11] at H ⊢; exact H)
              (try rw [hji11] at A6)
              have hji11w : (IntKind.i64.wrap ((l1.length : Int) + 1)) = ji11 := (i64_w _).trans hji11
              by_cases c12 : 0 ≤ (ji11)
              · rw [if_pos c12] at H
                have c12b0 : decide (0 ≤ (ji11)) = true := decide_eq_true c12
                clear c12
                by_cases c13 : (ji11) < (y190.length : Int)
                · rw [if_pos c13] at H
                  have c13b0 : decide ((ji11) < (y190.length : Int)) = true := decide_eq_true c13
                  clear c13
                  obtain rfl := Option.some.inj H
                  have q14 : ((ji3) : Int) ≤ ((t0.length : Int) : Int) := of_decide_eq_true (by first | (with_reducible assumption) | assumption)
                  obtain ⟨i014, hi014, _, hsz14, _⟩ := info_parts info42
                  have hroom14 : t0.length ≤ c0 := HCt.out
                  have hC14 : Kd.C k42 _ A0 t0.length t0 := HRt.out
                  have hcut14 := Go.Proofs.YtdccnjinehcenaaW.Own.up_to (P := Try.prog) 23 42 .i64 Try.underlying23 hi014 A0 l0.length t0.length c0 (ji3) (of_decide_eq_true (by first | (with_reducible assumption) | assumption)) q14 hroom14
                  have hr14 := Kd.C_take (m := ((ji3) : Int).toNat) hC14 (by omega)
                  have hy14 : y190.length = ((ji3) : Int).toNat := (by rw [Ny190.out, List.length_take]; omega)
                  rw [← Ny190.out] at hr14
                  rw [← hy14] at hcut14
                  have HR193 := Aside0.mk hr14
                  have HC193 := Aside0.mk (show y190.length ≤ c0 from by omega)
                  clear hr14 hC14 hroom14 hi014 hsz14
                  have KY14 := Aside0.mk hy14
                  clear hy14
                  replace q14 := eq_true q14
                  go_enter Try.func23, Try.ntmps23
                  go_wp2_with (first | ((with_reducible refine gate_callee (f := 29) rfl ?_); refine goesL_ (some 13) rfl rfl Try.func29 (by kernel_rfl) rfl #[.slice A0 l0.length c0, .slice A1 l1.length c1] rfl (by (try simp only [List.map_toArray, List.map_cons, List.map_nil]); first | done | rfl | (simp only [List.length_drop, List.length_take]; rfl)) ?_; (with_reducible refine (portagelaw0_SameWrites.calls k _ _ l0 _ _ l1 true _ ?side1 ?side2 ?side3 ?side4 A6.out).mono ?_); (case side1 => repeat (first | exact HR0.out | (with_reducible refine Kd.C_alloc ?_ _) | (with_reducible refine Kd.C_drewN ?_ _) | (with_reducible refine Kd.C_drew ?_))); (case side2 => exact HC0.out); (case side3 => repeat (first | exact HR1.out | (with_reducible refine Kd.C_alloc ?_ _) | (with_reducible refine Kd.C_drewN ?_ _) | (with_reducible refine Kd.C_drew ?_))); (case side4 => exact HC1.out); rintro e w' ⟨rfl, ⟨nd, rfl⟩⟩; refine ⟨_, rfl, ?_⟩; have p195 : 0 ≤ ((l1.length : Int) : Int) := of_decide_eq_true (by first | (with_reducible assumption) | assumption); have q195 : (l1.length : Int) < (y190.length : Int) := of_decide_eq_true (by first | (with_reducible assumption) | assumption); obtain ⟨ad195, e195, hx195_0, hx195_1⟩ := at_T42 HR193.out (l1.length : Int) p195 q195; cases e195; (try simp only [Go.IntWalk.toNatUp] at hx195_0); (try simp only [Go.IntWalk.toNatUp] at hx195_1); replace p195 := eq_true p195; replace q195 := eq_true q195; have p196 : 0 ≤ ((ji11) : Int) := of_decide_eq_true (by first | (with_reducible assumption) | assumption); have q196 : (ji11) < (y190.length : Int) := of_decide_eq_true (by first | (with_reducible assumption) | assumption); obtain ⟨ad196, e196, hx196_0, hx196_1⟩ := at_T42 HR193.out (ji11) p196 q196; obtain rfl : ad195 = ad196 := (by injection e196); replace p196 := eq_true p196; replace q196 := eq_true q196))
                  go_ret
                  exact ⟨by first | rfl | (simp; done) | (simp only [← hji3, ← hji11] <;> (first | rfl | simp)) | (simp [*]; done), by repeat (first | exact Drawn0.refl _ | apply Drawn0.step)⟩
                · rw [if_neg c13] at H
                  exact absurd H (by simp)
              · rw [if_neg c12] at H
                exact absurd H (by simp)
            · rw [if_neg c10] at H
              have c10b0 : (((rd_T42 y190 (l1.length : Int)).f0) == 77777 && ((((rd_T42 y190 (l1.length : Int)).f1).toList) == ([] : List UInt8))) = false := by simpa using c10
              (try (have c10b1 : decide (((rd_T42 y190 (l1.length : Int)).f0) = 77777 && ((((rd_T42 y190 (l1.length : Int)).f1).toList) == ([] : List UInt8))) = false := by simpa using c10))
              (try (have c10b2 : (((rd_T42 y190 (l1.length : Int)).f0) == 77777 && ((((rd_T42 y190 (l1.length : Int)).f1).toList) == ([] : List UInt8))) = false := by simpa using c10))
              (try (have c10b3 : ¬ (((rd_T42 y190 (l1.length : Int)).f0) = 77777 && ((((rd_T42 y190 (l1.length : Int)).f1).toList) == ([] : List UInt8))) := by simpa using c10))
              (try (have c10b4 : (((rd_T42 y190 (l1.length : Int)).f0) == 77777 && ((((rd_T42 y190 (l1.length : Int)).f1).toList).isEmpty)) = false := by simpa using c10))
              (try (have c10b5 : (((rd_T42 y190 (l1.length : Int)).f0) = 77777 ∧ ((((rd_T42 y190 (l1.length : Int)).f1).toList) = ([] : List UInt8))) = False := eq_false (by simpa using c10)))
              clear c10
              obtain rfl := Option.some.inj H
              have q15 : ((ji3) : Int) ≤ ((t0.length : Int) : Int) := of_decide_eq_true (by first | (with_reducible assumption) | assumption)
              obtain ⟨i015, hi015, _, hsz15, _⟩ := info_parts info42
              have hroom15 : t0.length ≤ c0 := HCt.out
              have hC15 : Kd.C k42 _ A0 t0.length t0 := HRt.out
              have hcut15 := Go.Proofs.YtdccnjinehcenaaW.Own.up_to (P := Try.prog) 23 42 .i64 Try.underlying23 hi015 A0 l0.length t0.length c0 (ji3) (of_decide_eq_true (by first | (with_reducible assumption) | assumption)) q15 hroom15
              have hr15 := Kd.C_take (m := ((ji3) : Int).toNat) hC15 (by omega)
              have hy15 : y190.length = ((ji3) : Int).toNat := (by rw [Ny190.out, List.length_take]; omega)
              rw [← Ny190.out] at hr15
              rw [← hy15] at hcut15
              have HR193 := Aside0.mk hr15
              have HC193 := Aside0.mk (show y190.length ≤ c0 from by omega)
              clear hr15 hC15 hroom15 hi015 hsz15
              have KY15 := Aside0.mk hy15
              clear hy15
              replace q15 := eq_true q15
              go_enter Try.func23, Try.ntmps23
              go_wp2_with (first | ((with_reducible refine gate_callee (f := 29) rfl ?_); refine goesL_ (some 13) rfl rfl Try.func29 (by kernel_rfl) rfl #[.slice A0 l0.length c0, .slice A1 l1.length c1] rfl (by (try simp only [List.map_toArray, List.map_cons, List.map_nil]); first | done | rfl | (simp only [List.length_drop, List.length_take]; rfl)) ?_; (with_reducible refine (portagelaw0_SameWrites.calls k _ _ l0 _ _ l1 true _ ?side1 ?side2 ?side3 ?side4 A6.out).mono ?_); (case side1 => repeat (first | exact HR0.out | (with_reducible refine Kd.C_alloc ?_ _) | (with_reducible refine Kd.C_drewN ?_ _) | (with_reducible refine Kd.C_drew ?_))); (case side2 => exact HC0.out); (case side3 => repeat (first | exact HR1.out | (with_reducible refine Kd.C_alloc ?_ _) | (with_reducible refine Kd.C_drewN ?_ _) | (with_reducible refine Kd.C_drew ?_))); (case side4 => exact HC1.out); rintro e w' ⟨rfl, ⟨nd, rfl⟩⟩; refine ⟨_, rfl, ?_⟩; have p195 : 0 ≤ ((l1.length : Int) : Int) := of_decide_eq_true (by first | (with_reducible assumption) | assumption); have q195 : (l1.length : Int) < (y190.length : Int) := of_decide_eq_true (by first | (with_reducible assumption) | assumption); obtain ⟨ad195, e195, hx195_0, hx195_1⟩ := at_T42 HR193.out (l1.length : Int) p195 q195; cases e195; (try simp only [Go.IntWalk.toNatUp] at hx195_0); (try simp only [Go.IntWalk.toNatUp] at hx195_1); replace p195 := eq_true p195; replace q195 := eq_true q195))
              go_ret
              exact ⟨by first | rfl | (simp; done) | (simp only [← hji3] <;> (first | rfl | simp)) | (simp [*]; done), by repeat (first | exact Drawn0.refl _ | apply Drawn0.step)⟩
          · rw [if_neg c9] at H
            exact absurd H (by simp)
        · rw [if_neg c8] at H
          exact absurd H (by simp)
      · replace c7 := Bool.eq_false_iff.mpr c7
        subst c7
        have H1 : (some false) = some r := by rw [if_neg (show ¬ (false = true) by decide)] at H; exact H
        clear H
        have H := H1
        clear H1
        obtain rfl := Option.some.inj H
        have q16 : ((ji3) : Int) ≤ ((t0.length : Int) : Int) := of_decide_eq_true (by first | (with_reducible assumption) | assumption)
        obtain ⟨i016, hi016, _, hsz16, _⟩ := info_parts info42
        have hroom16 : t0.length ≤ c0 := HCt.out
        have hC16 : Kd.C k42 _ A0 t0.length t0 := HRt.out
        have hcut16 := Go.Proofs.YtdccnjinehcenaaW.Own.up_to (P := Try.prog) 23 42 .i64 Try.underlying23 hi016 A0 l0.length t0.length c0 (ji3) (of_decide_eq_true (by first | (with_reducible assumption) | assumption)) q16 hroom16
        have hr16 := Kd.C_take (m := ((ji3) : Int).toNat) hC16 (by omega)
        have hy16 : y190.length = ((ji3) : Int).toNat := (by rw [Ny190.out, List.length_take]; omega)
        rw [← Ny190.out] at hr16
        rw [← hy16] at hcut16
        have HR193 := Aside0.mk hr16
        have HC193 := Aside0.mk (show y190.length ≤ c0 from by omega)
        clear hr16 hC16 hroom16 hi016 hsz16
        have KY16 := Aside0.mk hy16
        clear hy16
        replace q16 := eq_true q16
        go_enter Try.func23, Try.ntmps23
        go_wp2_with (first | ((with_reducible refine gate_callee (f := 29) rfl ?_); refine goesL_ (some 13) rfl rfl Try.func29 (by kernel_rfl) rfl #[.slice A0 l0.length c0, .slice A1 l1.length c1] rfl (by (try simp only [List.map_toArray, List.map_cons, List.map_nil]); first | done | rfl | (simp only [List.length_drop, List.length_take]; rfl)) ?_; (with_reducible refine (portagelaw0_SameWrites.calls k _ _ l0 _ _ l1 false _ ?side1 ?side2 ?side3 ?side4 A6.out).mono ?_); (case side1 => repeat (first | exact HR0.out | (with_reducible refine Kd.C_alloc ?_ _) | (with_reducible refine Kd.C_drewN ?_ _) | (with_reducible refine Kd.C_drew ?_))); (case side2 => exact HC0.out); (case side3 => repeat (first | exact HR1.out | (with_reducible refine Kd.C_alloc ?_ _) | (with_reducible refine Kd.C_drewN ?_ _) | (with_reducible refine Kd.C_drew ?_))); (case side4 => exact HC1.out); rintro e w' ⟨rfl, ⟨nd, rfl⟩⟩; refine ⟨_, rfl, ?_⟩))
        go_ret
        exact ⟨by first | rfl | (simp; done) | (simp only [← hji3] <;> (first | rfl | simp)) | (simp [*]; done), by repeat (first | exact Drawn0.refl _ | apply Drawn0.step)⟩
    · rw [if_neg c5] at H
      exact absurd H (by simp)
  · rw [if_neg c4] at H
    exact absurd H (by simp)

end Go.Proofs.Ytdccnjinehcenaa.DD
