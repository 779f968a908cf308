-- Written by a program of this session out of the translation (a changed copy of the kit's printer).
import Derived.Test.YtdccnjinehcenaaLS0
import Derived.Test.YtdccnjinehcenaaLS2
import Derived.Test.YtdccnjinehcenaaLS6
namespace Go.Proofs.Ytdccnjinehcenaa.LS
open Go.RowKit Go.Proofs.YtdccnjinehcenaaW.PrintWords Go.Proofs.YtdccnjinehcenaaW.PrintLast Go.Proofs.YtdccnjinehcenaaW.PrintMore
attribute [local go_sem] max2_int min2_int max_two min_two max_three min_three max_four min_four   -- for this text's walks alone
set_option linter.unusedVariables false
set_option linter.unusedSimpArgs false

/-! ### portageref17_head: function 45 -/
def portageref17_head.f (k : Nat) (a0 : Int) (a1 : Int) : Option (ByteArray) := (portageref10_Bytes.f k a0 4).bind fun t156 => (if 1 + t156.size ≤ 9223372036854775807 then ((portageref10_Bytes.f k a1 4).bind fun t157 => (if ((⟨#[90]⟩ : ByteArray) ++ t156).size + t157.size ≤ 9223372036854775807 then ((portageref17_zeros.f (wrap64 (63 - ((((⟨#[90]⟩ : ByteArray) ++ t156) ++ t157).size : Int)))).bind fun t158 => (if (((⟨#[90]⟩ : ByteArray) ++ t156) ++ t157).size + t158.size ≤ 9223372036854775807 then (if ((((⟨#[90]⟩ : ByteArray) ++ t156) ++ t157) ++ t158).size + 1 ≤ 9223372036854775807 then (some (((((⟨#[90]⟩ : ByteArray) ++ t156) ++ t157) ++ t158) ++ (⟨#[69]⟩ : ByteArray))) else (none)) else (none))) else (none))) else (none))
theorem portageref17_head.mono : ∀ a0 a1 k, LeO (portageref17_head.f k a0 a1) (portageref17_head.f (k + 1) a0 a1) := by
  intro a0 a1 k
  unfold portageref17_head.f
  repeat' first
      | (with_reducible exact portageref10_Bytes.mono _ _ _)
      | (with_reducible exact LeO.refl _)
      | (with_reducible exact LeO.none _)
      | (with_reducible refine LeO.ite ?_ ?_)
      | (with_reducible refine LeO.bind ?_ (fun _ => ?_))
      | exact portageref10_Bytes.mono _ _ _
      | exact LeO.none _
      | refine LeO.ite ?_ ?_
      | refine LeO.bind ?_ (fun _ => ?_)
set_option maxHeartbeats 8000000 in
set_option maxRecDepth 100000 in
theorem portageref17_head.calls (k : Nat) (a0 : Int) (a1 : Int) (r : ByteArray) (w : World) (h : portageref17_head.f k a0 a1 = some r) :
    Calls Try.prog 45 #[.int .i64 a0, .int .i64 a1] w fun e w' => e = .returned (.string r) ∧ Below w.heap.size w w' := by
  have HB := Aside0.mk (Below.refl w.heap.size w)
  have H : ((portageref10_Bytes.f k a0 4).bind fun t156 => (if 1 + t156.size ≤ 9223372036854775807 then ((portageref10_Bytes.f k a1 4).bind fun t157 => (if ((⟨#[90]⟩ : ByteArray) ++ t156).size + t157.size ≤ 9223372036854775807 then ((portageref17_zeros.f (wrap64 (63 - ((((⟨#[90]⟩ : ByteArray) ++ t156) ++ t157).size : Int)))).bind fun t158 => (if (((⟨#[90]⟩ : ByteArray) ++ t156) ++ t157).size + t158.size ≤ 9223372036854775807 then (if ((((⟨#[90]⟩ : ByteArray) ++ t156) ++ t157) ++ t158).size + 1 ≤ 9223372036854775807 then (some (((((⟨#[90]⟩ : ByteArray) ++ t156) ++ t157) ++ t158) ++ (⟨#[69]⟩ : ByteArray))) else (none)) else (none))) else (none))) else (none))) = some r := h
  clear h
  replace H := Option.bind_eq_some_iff.mp H
  obtain ⟨t156, A30, H⟩ := H
  replace H : (if 1 + t156.size ≤ 9223372036854775807 then ((portageref10_Bytes.f k a1 4).bind fun t157 => (if ((⟨#[90]⟩ : ByteArray) ++ t156).size + t157.size ≤ 9223372036854775807 then ((portageref17_zeros.f (wrap64 (63 - ((((⟨#[90]⟩ : ByteArray) ++ t156) ++ t157).size : Int)))).bind fun t158 => (if (((⟨#[90]⟩ : ByteArray) ++ t156) ++ t157).size + t158.size ≤ 9223372036854775807 then (if ((((⟨#[90]⟩ : ByteArray) ++ t156) ++ t157) ++ t158).size + 1 ≤ 9223372036854775807 then (some (((((⟨#[90]⟩ : ByteArray) ++ t156) ++ t157) ++ t158) ++ (⟨#[69]⟩ : ByteArray))) else (none)) else (none))) else (none))) else (none)) = some r := H
  have A3 := Aside0.mk A30
  clear A30
  by_cases c4 : 1 + t156.size ≤ 9223372036854775807
  · rw [if_pos c4] at H
    have c4b0 := eq_true c4
    have c4b1 : decide (1 + t156.size ≤ 9223372036854775807) = true := decide_eq_true c4
    try have c4b2 : (9223372036854775807 < 1 + t156.size) = False := eq_false (Nat.not_lt.2 c4)
    replace H := Option.bind_eq_some_iff.mp H
    obtain ⟨t157, A50, H⟩ := H
    replace H : (if ((⟨#[90]⟩ : ByteArray) ++ t156).size + t157.size ≤ 9223372036854775807 then ((portageref17_zeros.f (wrap64 (63 - ((((⟨#[90]⟩ : ByteArray) ++ t156) ++ t157).size : Int)))).bind fun t158 => (if (((⟨#[90]⟩ : ByteArray) ++ t156) ++ t157).size + t158.size ≤ 9223372036854775807 then (if ((((⟨#[90]⟩ : ByteArray) ++ t156) ++ t157) ++ t158).size + 1 ≤ 9223372036854775807 then (some (((((⟨#[90]⟩ : ByteArray) ++ t156) ++ t157) ++ t158) ++ (⟨#[69]⟩ : ByteArray))) else (none)) else (none))) else (none)) = some r := H
    have A5 := Aside0.mk A50
    clear A50
    by_cases c6 : ((⟨#[90]⟩ : ByteArray) ++ t156).size + t157.size ≤ 9223372036854775807
    · rw [if_pos c6] at H
      have c6b0 := eq_true c6
      have c6b1 : decide (((⟨#[90]⟩ : ByteArray) ++ t156).size + t157.size ≤ 9223372036854775807) = true := decide_eq_true c6
      try have c6b2 : (9223372036854775807 < ((⟨#[90]⟩ : ByteArray) ++ t156).size + t157.size) = False := eq_false (Nat.not_lt.2 c6)
      have c6b9 : (9223372036854775807 < ((⟨#[90]⟩ : ByteArray) ++ t156).size + t157.size) = False := eq_false (Nat.not_lt.2 c6)
      (first | (simp only [ByteArray.size_append, show (⟨#[90]⟩ : ByteArray).size = 1 from rfl] at c6b9) | (try simp only [ByteArray.size_append, show (⟨#[90]⟩ : ByteArray).size = 1 from rfl] at c6b9))
      replace H := Option.bind_eq_some_iff.mp H
      obtain ⟨t158, A70, H⟩ := H
      replace H : (if (((⟨#[90]⟩ : ByteArray) ++ t156) ++ t157).size + t158.size ≤ 9223372036854775807 then (if ((((⟨#[90]⟩ : ByteArray) ++ t156) ++ t157) ++ t158).size + 1 ≤ 9223372036854775807 then (some (((((⟨#[90]⟩ : ByteArray) ++ t156) ++ t157) ++ t158) ++ (⟨#[69]⟩ : ByteArray))) else (none)) else (none)) = some r := H
      have A7 := Aside0.mk A70
      clear A70
      by_cases c8 : (((⟨#[90]⟩ : ByteArray) ++ t156) ++ t157).size + t158.size ≤ 9223372036854775807
      · rw [if_pos c8] at H
        have c8b0 := eq_true c8
        have c8b1 : decide ((((⟨#[90]⟩ : ByteArray) ++ t156) ++ t157).size + t158.size ≤ 9223372036854775807) = true := decide_eq_true c8
        try have c8b2 : (9223372036854775807 < (((⟨#[90]⟩ : ByteArray) ++ t156) ++ t157).size + t158.size) = False := eq_false (Nat.not_lt.2 c8)
        have c8b9 : (9223372036854775807 < (((⟨#[90]⟩ : ByteArray) ++ t156) ++ t157).size + t158.size) = False := eq_false (Nat.not_lt.2 c8)
        (first | (simp only [ByteArray.size_append, show (⟨#[90]⟩ : ByteArray).size = 1 from rfl] at c8b9) | (try simp only [ByteArray.size_append, show (⟨#[90]⟩ : ByteArray).size = 1 from rfl] at c8b9))
        by_cases c9 : ((((⟨#[90]⟩ : ByteArray) ++ t156) ++ t157) ++ t158).size + 1 ≤ 9223372036854775807
        · rw [if_pos c9] at H
          have c9b0 := eq_true c9
          have c9b1 : decide (((((⟨#[90]⟩ : ByteArray) ++ t156) ++ t157) ++ t158).size + 1 ≤ 9223372036854775807) = true := decide_eq_true c9
          try have c9b2 : (9223372036854775807 < ((((⟨#[90]⟩ : ByteArray) ++ t156) ++ t157) ++ t158).size + 1) = False := eq_false (Nat.not_lt.2 c9)
          have c9b9 : (9223372036854775807 < ((((⟨#[90]⟩ : ByteArray) ++ t156) ++ t157) ++ t158).size + 1) = False := eq_false (Nat.not_lt.2 c9)
          (first | (simp only [ByteArray.size_append, show (⟨#[90]⟩ : ByteArray).size = 1 from rfl] at c9b9) | (try simp only [ByteArray.size_append, show (⟨#[90]⟩ : ByteArray).size = 1 from rfl] at c9b9))
          obtain rfl := Option.some.inj H
          go_enter Try.func45, Try.ntmps45
          go_wp2_with (first | ((with_reducible refine gate_callee (f := 53) rfl ?_); refine goesL_ (some 7) rfl rfl Try.func53 (by kernel_rfl) rfl #[.int .i64 a0, .int .i64 4] rfl (by (try simp only [List.map_toArray, List.map_cons, List.map_nil]); first | done | rfl | (simp only [List.length_drop, List.length_take]; rfl)) ?_; (with_reducible refine (portageref10_Bytes.calls k a0 4 t156 _ A3.out).mono ?_); rintro e w10 ⟨rfl, hb⟩; refine ⟨_, rfl, ?_⟩; have n0_ := Aside0.mk (below_step (by repeat (first | (with_reducible first | exact HB.out | apply below_alloc | apply pw_below_drewN | apply below_drew1) | exact HB.out)) hb); clear HB; have HB := n0_; clear n0_; (try clear hb); (try clear hb2); (try clear hk); (try clear hi)) | ((with_reducible refine gate_callee (f := 53) rfl ?_); refine goesL_ (some 10) rfl rfl Try.func53 (by kernel_rfl) rfl #[.int .i64 a1, .int .i64 4] rfl (by (try simp only [List.map_toArray, List.map_cons, List.map_nil]); first | done | rfl | (simp only [List.length_drop, List.length_take]; rfl)) ?_; (with_reducible refine (portageref10_Bytes.calls k a1 4 t157 _ A5.out).mono ?_); rintro e w11 ⟨rfl, hb⟩; refine ⟨_, rfl, ?_⟩; have n0_ := Aside0.mk (below_step (by repeat (first | (with_reducible first | exact HB.out | apply below_alloc | apply pw_below_drewN | apply below_drew1) | exact HB.out)) hb); clear HB; have HB := n0_; clear n0_; (try clear hb); (try clear hb2); (try clear hk); (try clear hi)) | ((with_reducible refine gate_callee (f := 33) rfl ?_); refine goesL_ (some 16) rfl rfl Try.func33 (by kernel_rfl) rfl #[.int .i64 (wrap64 (63 - ((((⟨#[90]⟩ : ByteArray) ++ t156) ++ t157).size : Int)))] rfl (by (try simp only [List.map_toArray, List.map_cons, List.map_nil]); first | done | (simp only [ByteArray.size_append, show (⟨#[90]⟩ : ByteArray).size = 1 from rfl]; rfl) | rfl | (simp only [List.length_drop, List.length_take]; rfl)) ?_; (with_reducible refine (portageref17_zeros.calls (wrap64 (63 - ((((⟨#[90]⟩ : ByteArray) ++ t156) ++ t157).size : Int))) t158 _ A7.out).mono ?_); rintro e w12 ⟨rfl, hb⟩; refine ⟨_, rfl, ?_⟩; have n0_ := Aside0.mk (below_step (by repeat (first | (with_reducible first | exact HB.out | apply below_alloc | apply pw_below_drewN | apply below_drew1) | exact HB.out)) hb); clear HB; have HB := n0_; clear n0_; (try clear hb); (try clear hb2); (try clear hk); (try clear hi)))
          go_ret
          exact ⟨by first | rfl | (simp [errW_none, errW_some] <;> rfl) | (simp [*, errW_none, errW_some] <;> rfl), by repeat (first | (with_reducible first | exact HB.out | apply below_alloc | apply pw_below_drewN | apply below_drew1) | exact HB.out)⟩
        · rw [if_neg c9] at H
          exact absurd H (by simp)
      · rw [if_neg c8] at H
        exact absurd H (by simp)
    · rw [if_neg c6] at H
      exact absurd H (by simp)
  · rw [if_neg c4] at H
    exact absurd H (by simp)

/-! ### portageref17_Plan: function 26 -/
mutual
def portageref17_Plan.j0 : Nat → Int → ByteArray → Bool → Option ((List (S42)) × Int)
  | 0, _, _, _ => none
  | k + 1, x0, x1, x20 => if x20 = true then (some (([] : List (S42)), 1800)) else ((portageref17_zeros.f 64).bind fun t159 => (portageref17_Plan.l0 k x0 x1 (wrap64 ((Int.tmod x0 2) * 65)) (([(⟨wrap64 ((Int.tmod x0 2) * 65), t159⟩ : S42)] : List (S42))) 0))
def portageref17_Plan.l0 : Nat → Int → ByteArray → Int → List (S42) → Int → Option ((List (S42)) × Int)
  | 0, _, _, _, _, _ => none
  | k + 1, x0, x1, x6, x7, x8 => if x8 < (x1.size : Int) then (if 0 ≤ x8 then (if x8 ≤ (mn (wrap64 (x8 + 64)) (x1.size : Int)) then (if (mn (wrap64 (x8 + 64)) (x1.size : Int)) ≤ (x1.size : Int) then ((portageref17_zeros.f (wrap64 (64 - ((x1.extract (x8 : Int).toNat ((mn (wrap64 (x8 + 64)) (x1.size : Int)) : Int).toNat).size : Int)))).bind fun t163 => (if (x1.extract (x8 : Int).toNat ((mn (wrap64 (x8 + 64)) (x1.size : Int)) : Int).toNat).size + t163.size ≤ 9223372036854775807 then (if x7.length < 5864062014805 then (portageref17_Plan.l0 k x0 x1 x6 (x7 ++ [(⟨wrap64 ((wrap64 (x6 + 1)) + (wrap64 (Int.tdiv x8 64))), (x1.extract (x8 : Int).toNat ((mn (wrap64 (x8 + 64)) (x1.size : Int)) : Int).toNat) ++ t163⟩ : S42)]) (wrap64 (x8 + 64))) else (none)) else (none))) else (none)) else (none)) else (none)) else ((portageref17_head.f k x0 (x1.size : Int)).bind fun t167 => (if x7.length < 5864062014805 then (some ((x7 ++ [(⟨x6, t167⟩ : S42)]), 0)) else (none)))
end
def portageref17_Plan.f (k : Nat) (a0 : Int) (a1 : ByteArray) : Option ((List (S42)) × Int) := if a0 < 1 then (portageref17_Plan.j0 k a0 a1 true) else (if a0 > 1048576 then (portageref17_Plan.j0 k a0 a1 true) else (portageref17_Plan.j0 k a0 a1 (decide ((a1.size : Int) > 4096))))
theorem portageref17_Plan.mono_l : ∀ k, (∀ y0 y1 y2, LeO (portageref17_Plan.j0 k y0 y1 y2) (portageref17_Plan.j0 (k + 1) y0 y1 y2)) ∧ (∀ y0 y1 y2 y3 y4, LeO (portageref17_Plan.l0 k y0 y1 y2 y3 y4) (portageref17_Plan.l0 (k + 1) y0 y1 y2 y3 y4))
  | 0 => ⟨fun _ _ _ r h => by simp [portageref17_Plan.j0] at h, fun _ _ _ _ _ r h => by simp [portageref17_Plan.l0] at h⟩
  | k + 1 => by
    obtain ⟨ih0, ih1⟩ := portageref17_Plan.mono_l k
    refine ⟨?_, ?_⟩
    · intro y0 y1 y2
      unfold portageref17_Plan.j0
      repeat' first
      | (with_reducible exact ih0 _ _ _)
      | (with_reducible exact ih1 _ _ _ _ _)
      | (with_reducible exact portageref17_head.mono _ _ _)
      | (with_reducible exact LeO.refl _)
      | (with_reducible exact LeO.none _)
      | (with_reducible refine LeO.ite ?_ ?_)
      | (with_reducible refine LeO.bind ?_ (fun _ => ?_))
      | exact ih0 _ _ _
      | exact ih1 _ _ _ _ _
      | exact portageref17_head.mono _ _ _
      | exact LeO.none _
      | refine LeO.ite ?_ ?_
      | refine LeO.bind ?_ (fun _ => ?_)
    · intro y0 y1 y2 y3 y4
      unfold portageref17_Plan.l0
      repeat' first
      | (with_reducible exact ih0 _ _ _)
      | (with_reducible exact ih1 _ _ _ _ _)
      | (with_reducible exact portageref17_head.mono _ _ _)
      | (with_reducible exact LeO.refl _)
      | (with_reducible exact LeO.none _)
      | (with_reducible refine LeO.ite ?_ ?_)
      | (with_reducible refine LeO.bind ?_ (fun _ => ?_))
      | exact ih0 _ _ _
      | exact ih1 _ _ _ _ _
      | exact portageref17_head.mono _ _ _
      | exact LeO.none _
      | refine LeO.ite ?_ ?_
      | refine LeO.bind ?_ (fun _ => ?_)
theorem portageref17_Plan.mono : ∀ a0 a1 k, LeO (portageref17_Plan.f k a0 a1) (portageref17_Plan.f (k + 1) a0 a1) := by
  intro a0 a1 k
  obtain ⟨ih0, ih1⟩ := portageref17_Plan.mono_l k
  unfold portageref17_Plan.f
  repeat' first
      | (with_reducible exact ih0 _ _ _)
      | (with_reducible exact ih1 _ _ _ _ _)
      | (with_reducible exact portageref17_head.mono _ _ _)
      | (with_reducible exact LeO.refl _)
      | (with_reducible exact LeO.none _)
      | (with_reducible refine LeO.ite ?_ ?_)
      | (with_reducible refine LeO.bind ?_ (fun _ => ?_))
      | exact ih0 _ _ _
      | exact ih1 _ _ _ _ _
      | exact portageref17_head.mono _ _ _
      | exact LeO.none _
      | refine LeO.ite ?_ ?_
      | refine LeO.bind ?_ (fun _ => ?_)
set_option maxHeartbeats 8000000 in
set_option maxRecDepth 100000 in
theorem portageref17_Plan.calls (k : Nat) (a0 : Int) (a1 : ByteArray) (r1 : List (S42)) (r2 : Int) (w : World) (h : portageref17_Plan.f k a0 a1 = some (r1, r2)) :
    Calls Try.prog 26 #[.int .i64 a0, .string a1] w fun e w' => ∃ v0_ : Value, e = .returned (.tuple #[v0_, .int .i64 r2]) ∧ Kd.R k42 42 w' w.heap.size (fun _ => True) v0_ r1 ∧ Below w.heap.size w w' := by
  have hu42 := Try.underlying42
  have HB := Aside0.mk (Below.refl w.heap.size w)
  have H : (if a0 < 1 then (portageref17_Plan.j0 k a0 a1 true) else (if a0 > 1048576 then (portageref17_Plan.j0 k a0 a1 true) else (portageref17_Plan.j0 k a0 a1 (decide ((a1.size : Int) > 4096))))) = some (r1, r2) := h
  clear h
  have HC3 := Aside0.mk H
  clear H
  go_enter Try.func26, Try.ntmps26
  go_upto_region 1 with (fail)
  go_cut [20] (fun v20 wc => ∃ (kq : Nat) (x20_2 : Bool), v20 = .bool x20_2 ∧ Aside0 (portageref17_Plan.j0 kq a0 a1 x20_2 = some (r1, r2)) ∧ Aside0 (kq ≤ k) ∧ Aside0 (Below w.heap.size w wc))
  case first =>
    have H := HC3.out
    clear HC3
    by_cases c4 : a0 < 1
    · rw [if_pos c4] at H
      have c4b0 : decide (a0 < 1) = true := decide_eq_true c4
      clear c4
      (first | rw [c4b0] | (simp only [i64_w, i32_w]; rw [c4b0]) | skip)
      have H' := Aside0.mk H
      clear H
      go_wp2
      go_meet
      case rel => exact ⟨_, (true), (by first | rfl | (simp; done) | (simp [*]; done)), H', ⟨by first | omega | exact Nat.le_refl _⟩, ⟨by repeat (first | (with_reducible first | exact HB.out | apply below_alloc | apply pw_below_drewN | apply below_drew1) | exact HB.out)⟩⟩
    · rw [if_neg c4] at H
      have c4b0 : decide (a0 < 1) = false := decide_eq_false c4
      clear c4
      (first | rw [c4b0] | (simp only [i64_w, i32_w]; rw [c4b0]) | skip)
      by_cases c5 : a0 > 1048576
      · rw [if_pos c5] at H
        have c5b0 : decide (1048576 < a0) = true := decide_eq_true c5
        clear c5
        have H' := Aside0.mk H
        clear H
        go_wp2
        go_meet
        case rel => exact ⟨_, (true), (by first | rfl | (simp; done) | (simp [*]; done)), H', ⟨by first | omega | exact Nat.le_refl _⟩, ⟨by repeat (first | (with_reducible first | exact HB.out | apply below_alloc | apply pw_below_drewN | apply below_drew1) | exact HB.out)⟩⟩
      · rw [if_neg c5] at H
        have c5b0 : decide (1048576 < a0) = false := decide_eq_false c5
        clear c5
        have H' := Aside0.mk H
        clear H
        go_wp2
        go_meet
        case rel => exact ⟨_, (decide ((a1.size : Int) > 4096)), (by first | rfl | (simp; done) | (simp [*]; done)), H', ⟨by first | omega | exact Nat.le_refl _⟩, ⟨by repeat (first | (with_reducible first | exact HB.out | apply below_alloc | apply pw_below_drewN | apply below_drew1) | exact HB.out)⟩⟩
  case rest =>
    clear HC3
    try clear c2
    try clear p2
    try clear c4
    try clear c4b0
    try clear c5
    try clear c5b0
    obtain ⟨kq, x20_2, rfl, HA, HJ2, HB⟩ := hcut
    cases kq with
    | zero => exact absurd HA.out (by simp [portageref17_Plan.j0])
    | succ kj2 =>
      have H := HA.out
      clear HA
      simp only [portageref17_Plan.j0] at H
      by_cases c6 : x20_2 = true
      · subst c6
        have H1 : (some (([] : List (S42)), 1800)) = some (r1, r2) := by rw [if_pos rfl] at H; exact H
        clear H
        have H := H1
        clear H1
        simp only [Option.some.injEq, Prod.mk.injEq] at H
        obtain ⟨rfl, rfl⟩ := H
        go_wp2
        go_ret2
        exact ⟨_, by first | rfl | (simp [errW_none, errW_some] <;> rfl) | (simp [*, errW_none, errW_some] <;> rfl), by first | exact Kd.R_nil _ _ _ _ _ | exact Kd.N_nil _ _ _ _ _ | exact Kd.V_nil _ _ _ _ _ | exact Kd.Q_nil _ _ _ _ _ | exact Kd.S_nil _ _ _ _ _, by repeat (first | (with_reducible first | exact HB.out | apply below_alloc | apply pw_below_drewN | apply below_drew1) | exact HB.out)⟩
      · replace c6 := Bool.eq_false_iff.mpr c6
        subst c6
        have H1 : ((portageref17_zeros.f 64).bind fun t159 => (portageref17_Plan.l0 kj2 a0 a1 (wrap64 ((Int.tmod a0 2) * 65)) (([(⟨wrap64 ((Int.tmod a0 2) * 65), t159⟩ : S42)] : List (S42))) 0)) = some (r1, r2) := by rw [if_neg (show ¬ (false = true) by decide)] at H; exact H
        clear H
        have H := H1
        clear H1
        replace H := Option.bind_eq_some_iff.mp H
        obtain ⟨t159, A70, H⟩ := H
        replace H : (portageref17_Plan.l0 kj2 a0 a1 (wrap64 ((Int.tmod a0 2) * 65)) (([(⟨wrap64 ((Int.tmod a0 2) * 65), t159⟩ : S42)] : List (S42))) 0) = some (r1, r2) := H
        have A7 := Aside0.mk A70
        clear A70
        obtain ⟨y160, hy160⟩ : ∃ y_ : List (S42), y_ = (([(⟨wrap64 ((Int.tmod a0 2) * 65), t159⟩ : S42)] : List (S42))) := ⟨_, rfl⟩
        replace H : (portageref17_Plan.l0 kj2 a0 a1 (wrap64 ((Int.tmod a0 2) * 65)) y160 0) = some (r1, r2) := by first | (rw [hy160]; with_reducible exact H) | (have H2_ := (Option.bind_some _ _).symm.trans H; rw [hy160]; with_reducible exact H2_) | (have H2_ := (Option.bind_some _ _).symm.trans H; with_reducible exact H2_) | with_reducible exact H | (rw [hy160]; exact H) | exact H
        have Ny160 := Aside0.mk hy160
        clear hy160
        obtain ⟨ji8, hji8⟩ : ∃ j_ : Int, (wrap64 ((Int.tmod a0 2) * 65)) = j_ := ⟨_, rfl⟩
        replace H : (portageref17_Plan.l0 kj2 a0 a1 ji8 y160 0) = some (r1, r2) := by first | (rw [hji8] at H; exact H) | (simp only [hji8] at H ⊢; exact H)
        (try rw [hji8] at A7)
        (try rw [hji8] at Ny160)
        have hji8w : (IntKind.i64.wrap ((Int.tmod a0 2) * 65)) = ji8 := (i64_w _).trans hji8
        have H' := Aside0.mk H
        clear H
        go_wp2_with (first | ((with_reducible refine gate_callee (f := 33) rfl ?_); refine goesL_ (some 25) rfl rfl Try.func33 (by kernel_rfl) rfl #[.int .i64 64] rfl (by (try simp only [List.map_toArray, List.map_cons, List.map_nil]); first | done | rfl | (simp only [List.length_drop, List.length_take]; rfl)) ?_; (with_reducible refine (portageref17_zeros.calls 64 t159 _ A7.out).mono ?_); rintro e w9 ⟨rfl, hb⟩; refine ⟨_, rfl, ?_⟩; have n0_ := Aside0.mk (below_step (by repeat (first | (with_reducible first | exact HB.out | apply below_alloc | apply pw_below_drewN | apply below_drew1) | exact HB.out)) hb); clear HB; have HB := n0_; clear n0_; (try clear hb); (try clear hb2); (try clear hk); (try clear hi)) | ((with_reducible refine gate_dst (N := 27) rfl ?_); (try (refine gate_guard (by rfl) ?_; dsimp only)); refine Kd.R_lit k42 _ 42 ?hg (N := 27) ?hd (xs := ([(⟨ji8, t159⟩ : S42)] : List (S42))) (inner := [.int .i64 ji8, .string t159]) (ok := fun _ => True) (okp := fun _ => True) ?hr ?hp (fun _ hk => hk) trivial (Below.refl _ _) (Nat.le_refl _) (by simp) ?_; (case hd => rfl); (case hg => rfl); (case hr => first | (go_simp; done) | (go_simp; rfl)); (case hp => exact (Reps.c2 (show Kd.M k42 _ _ _ (⟨ji8, t159⟩ : S42) [.int .i64 ji8, .string t159] from (k42_mkM _ _ _ (⟨ji8, t159⟩ : S42) )) (Reps.none _ _))); intro v161 w10 ho11 hb hg_ hnew_; clear hg_ hnew_; (first | rw [← Ny160.out] at ho11 | (simp only [Int.reduceToNat] at ho11; rw [← Ny160.out] at ho11)); have n0_ := Aside0.mk (Kd.R_lower ho11 (below_size (by repeat (first | (with_reducible first | exact HB.out | apply below_alloc | apply pw_below_drewN | apply below_drew1) | exact HB.out)))); have n1_ := Aside0.mk (below_step (by repeat (first | (with_reducible first | exact HB.out | apply below_alloc | apply pw_below_drewN | apply below_drew1) | exact HB.out)) hb); clear HB; have HO162 := n0_; have HB := n1_; clear n0_ n1_; clear hb ho11))
        go_loopg [7, 8] kj2 (fun kq v7 v8 w' => ∃ (x7_2 : List (S42)) (x8_2 : Int), v8 = .int .i64 x8_2 ∧ Aside0 (portageref17_Plan.l0 kq a0 a1 ji8 x7_2 x8_2 = some (r1, r2)) ∧ Aside0 (kq ≤ kj2) ∧ Aside0 (Kd.R k42 42 w' w.heap.size (fun _ => True) v7 x7_2) ∧ Aside0 (Below w.heap.size w w'))
        case atStart => exact ⟨(y160), (0), (by first | rfl | (simp; done) | (simp [*]; done)), H', ⟨Nat.le_refl _⟩, ⟨by (with_reducible repeat (first | apply Kd.R_alloc | apply Kd.R_drewN | apply Kd.R_drew)); exact HO162.out⟩, ⟨by repeat (first | (with_reducible first | exact HB.out | apply below_alloc | apply pw_below_drewN | apply below_drew1) | exact HB.out)⟩⟩
        case round =>
          clear H'
          try clear c2
          try clear p2
          try clear c3
          try clear c4
          try clear c4b0
          try clear c5
          try clear c5b0
          try clear c6
          try clear p6
          try clear p2
          obtain ⟨x7_2, x8_2, rfl, HA, HK2, HO_7, HB⟩ := hrel
          cases gk with
          | zero => exact absurd HA.out (by simp [portageref17_Plan.l0])
          | succ k2 =>
            have H := HA.out
            clear HA
            simp only [portageref17_Plan.l0] at H
            by_cases c12 : x8_2 < (a1.size : Int)
            · rw [if_pos c12] at H
              have c12b0 : decide (x8_2 < (a1.size : Int)) = true := decide_eq_true c12
              clear c12
              obtain ⟨ji13, hji13⟩ : ∃ j_ : Int, (mn (wrap64 (x8_2 + 64)) (a1.size : Int)) = j_ := ⟨_, rfl⟩
              replace H : (if 0 ≤ x8_2 then (if x8_2 ≤ (ji13) then (if (ji13) ≤ (a1.size : Int) then ((portageref17_zeros.f (wrap64 (64 - ((a1.extract (x8_2 : Int).toNat ((ji13) : Int).toNat).size : Int)))).bind fun t163 => (if (a1.extract (x8_2 : Int).toNat ((ji13) : Int).toNat).size + t163.size ≤ 9223372036854775807 then (if x7_2.length < 5864062014805 then (portageref17_Plan.l0 k2 a0 a1 ji8 (x7_2 ++ [(⟨wrap64 ((wrap64 (ji8 + 1)) + (wrap64 (Int.tdiv x8_2 64))), (a1.extract (x8_2 : Int).toNat ((ji13) : Int).toNat) ++ t163⟩ : S42)]) (wrap64 (x8_2 + 64))) else (none)) else (none))) else (none)) else (none)) else (none)) = some (r1, r2) := by first | (rw [hji13] at H; exact H) | (simp only [hji13] at H ⊢; exact H)
              have hji13_ : (if (a1.size : Int) < (wrap64 (x8_2 + 64)) then (a1.size : Int) else (wrap64 (x8_2 + 64))) = ji13 := hji13
              by_cases c14 : 0 ≤ x8_2
              · rw [if_pos c14] at H
                have c14b0 := eq_true c14
                have c14b1 : decide (0 ≤ x8_2) = true := decide_eq_true c14
                clear c14
                by_cases c15 : x8_2 ≤ (ji13)
                · rw [if_pos c15] at H
                  have c15b0 := eq_true c15
                  have c15b1 : decide (x8_2 ≤ (ji13)) = true := decide_eq_true c15
                  clear c15
                  by_cases c16 : (ji13) ≤ (a1.size : Int)
                  · rw [if_pos c16] at H
                    have c16b0 := eq_true c16
                    have c16b1 : decide ((ji13) ≤ (a1.size : Int)) = true := decide_eq_true c16
                    clear c16
                    replace H := Option.bind_eq_some_iff.mp H
                    obtain ⟨t163, A170, H⟩ := H
                    replace H : (if (a1.extract (x8_2 : Int).toNat ((ji13) : Int).toNat).size + t163.size ≤ 9223372036854775807 then (if x7_2.length < 5864062014805 then (portageref17_Plan.l0 k2 a0 a1 ji8 (x7_2 ++ [(⟨wrap64 ((wrap64 (ji8 + 1)) + (wrap64 (Int.tdiv x8_2 64))), (a1.extract (x8_2 : Int).toNat ((ji13) : Int).toNat) ++ t163⟩ : S42)]) (wrap64 (x8_2 + 64))) else (none)) else (none)) = some (r1, r2) := H
                    have A17 := Aside0.mk A170
                    clear A170
                    by_cases c18 : (a1.extract (x8_2 : Int).toNat ((ji13) : Int).toNat).size + t163.size ≤ 9223372036854775807
                    · rw [if_pos c18] at H
                      have c18b0 := eq_true c18
                      have c18b1 : decide ((a1.extract (x8_2 : Int).toNat ((ji13) : Int).toNat).size + t163.size ≤ 9223372036854775807) = true := decide_eq_true c18
                      try have c18b2 : (9223372036854775807 < (a1.extract (x8_2 : Int).toNat ((ji13) : Int).toNat).size + t163.size) = False := eq_false (Nat.not_lt.2 c18)
                      have c18b9 : (9223372036854775807 < (a1.extract (x8_2 : Int).toNat ((ji13) : Int).toNat).size + t163.size) = False := eq_false (Nat.not_lt.2 c18)
                      (first | (simp only [ByteArray.size_append, show (a1.extract (x8_2 : Int).toNat ((ji13) : Int).toNat).size = ((ji13) : Int).toNat - (x8_2 : Int).toNat from by have z_ : (ji13) ≤ ((a1.size : Nat) : Int) := of_decide_eq_true (by first | (with_reducible assumption) | assumption); rw [ByteArray.size_extract]; omega] at c18b9) | (try simp only [ByteArray.size_append] at c18b9))
                      by_cases c19 : x7_2.length < 5864062014805
                      · rw [if_pos c19] at H
                        have LMc19 := Aside0.mk c19
                        clear c19
                        obtain ⟨y164, hy164⟩ : ∃ y_ : List (S42), y_ = (x7_2 ++ [(⟨wrap64 ((wrap64 (ji8 + 1)) + (wrap64 (Int.tdiv x8_2 64))), (a1.extract (x8_2 : Int).toNat ((ji13) : Int).toNat) ++ t163⟩ : S42)]) := ⟨_, rfl⟩
                        replace H : (portageref17_Plan.l0 k2 a0 a1 ji8 y164 (wrap64 (x8_2 + 64))) = some (r1, r2) := by first | (rw [hy164]; with_reducible exact H) | (have H2_ := (Option.bind_some _ _).symm.trans H; rw [hy164]; with_reducible exact H2_) | (have H2_ := (Option.bind_some _ _).symm.trans H; with_reducible exact H2_) | with_reducible exact H | (rw [hy164]; exact H) | exact H
                        have Ny164 := Aside0.mk hy164
                        clear hy164
                        have H' := Aside0.mk H
                        clear H
                        go_wp2_with (first | ((with_reducible refine gate_callee (f := 33) rfl ?_); refine goesL_ (some 52) rfl rfl Try.func33 (by kernel_rfl) rfl #[.int .i64 (wrap64 (64 - ((a1.extract (x8_2 : Int).toNat ((ji13) : Int).toNat).size : Int)))] rfl (by (try simp only [List.map_toArray, List.map_cons, List.map_nil]); first | done | (simp only [ByteArray.size_append, show (a1.extract (x8_2 : Int).toNat ((ji13) : Int).toNat).size = ((ji13) : Int).toNat - (x8_2 : Int).toNat from by have z_ : (ji13) ≤ ((a1.size : Nat) : Int) := of_decide_eq_true (by first | (with_reducible assumption) | assumption); rw [ByteArray.size_extract]; omega]; rfl) | (simp only [hji13]; rfl) | rfl | (simp only [List.length_drop, List.length_take]; rfl)) ?_; (with_reducible refine (portageref17_zeros.calls (wrap64 (64 - ((a1.extract (x8_2 : Int).toNat ((ji13) : Int).toNat).size : Int))) t163 _ A17.out).mono ?_); rintro e w20 ⟨rfl, hb⟩; refine ⟨_, rfl, ?_⟩; have n0_ := Aside0.mk (Kd.R_below (by (with_reducible repeat (first | apply Kd.R_alloc | apply Kd.R_drewN | apply Kd.R_drew)); exact HO_7.out) hb); have n1_ := Aside0.mk (below_step (by repeat (first | (with_reducible first | exact HB.out | apply below_alloc | apply pw_below_drewN | apply below_drew1) | exact HB.out)) hb); clear HO_7; clear HB; have HO_7 := n0_; have HB := n1_; clear n0_ n1_; (try clear hb); (try clear hb2); (try clear hk); (try clear hi)) | ((with_reducible refine gate_builtin (b := .append) (xs := #[.tmp 42, .tmp 55]) rfl ?_); (try (refine gate_guard (by rfl) ?_; dsimp only)); at_builtin; refine Kd.R_append k42 (w0 := w) w.heap.size rfl (.tmp 42) (.tmp 55) 23 42 (.agg #[(.int .i64 0), (.string ⟨#[]⟩)]) 24 rfl Try.underlying23 info42 rfl (by decide) (by omega) u7 x7_2 (⟨wrap64 ((wrap64 (ji8 + 1)) + (wrap64 (Int.tdiv x8_2 64))), (a1.extract (x8_2 : Int).toNat ((ji13) : Int).toNat) ++ t163⟩ : S42) [.int .i64 (wrap64 ((wrap64 (ji8 + 1)) + (wrap64 (Int.tdiv x8_2 64)))), .string ((a1.extract (x8_2 : Int).toNat ((ji13) : Int).toNat) ++ t163)] (fun _ => True) (fun _ => False) rfl rfl ?aP (fun _ hk => hk.elim) ?aF ?aO ?aB ?aS ?aL ?_; (case aP => exact k42_mkM _ _ _ (⟨wrap64 ((wrap64 (ji8 + 1)) + (wrap64 (Int.tdiv x8_2 64))), (a1.extract (x8_2 : Int).toNat ((ji13) : Int).toNat) ++ t163⟩ : S42)); (case aB => exact (by repeat (first | (with_reducible first | exact HB.out | apply below_alloc | apply pw_below_drewN | apply below_drew1) | exact HB.out))); (case aF => exact (fun _ _ => trivial)); (case aO => exact (by (with_reducible repeat (first | apply Kd.R_alloc | apply Kd.R_drewN | apply Kd.R_drew)); exact HO_7.out)); (case aS => exact (below_size (by repeat (first | (with_reducible first | exact HB.out | apply below_alloc | apply pw_below_drewN | apply below_drew1) | exact HB.out)))); (case aL => have := LMc19.out; omega); intro v165 w21 ho hb hg hat; rw [← Ny164.out] at ho; have n0_ := Aside0.mk (hb); have n1_ := Aside0.mk (ho); clear HB; clear HO_7; have HB := n0_; have HO166 := n1_; clear n0_ n1_; clear ho hb hg hat))
                        go_roundg k2
                        case measure => have := HJ2.out; have := HK2.out; omega
                        case rel => exact ⟨(y164), (wrap64 (x8_2 + 64)), (by first | rfl | (simp; done) | (simp [*]; done)), H', ⟨by have := HJ2.out; have := HK2.out; omega⟩, ⟨by (with_reducible repeat (first | apply Kd.R_alloc | apply Kd.R_drewN | apply Kd.R_drew)); exact HO166.out⟩, ⟨by repeat (first | (with_reducible first | exact HB.out | apply below_alloc | apply pw_below_drewN | apply below_drew1) | exact HB.out)⟩⟩
                      · rw [if_neg c19] at H
                        exact absurd H (by simp)
                    · rw [if_neg c18] at H
                      exact absurd H (by simp)
                  · rw [if_neg c16] at H
                    exact absurd H (by simp)
                · rw [if_neg c15] at H
                  exact absurd H (by simp)
              · rw [if_neg c14] at H
                exact absurd H (by simp)
            · rw [if_neg c12] at H
              have c12b0 : decide (x8_2 < (a1.size : Int)) = false := decide_eq_false c12
              clear c12
              replace H := Option.bind_eq_some_iff.mp H
              obtain ⟨t167, A220, H⟩ := H
              replace H : (if x7_2.length < 5864062014805 then (some ((x7_2 ++ [(⟨ji8, t167⟩ : S42)]), 0)) else (none)) = some (r1, r2) := H
              have A22 := Aside0.mk A220
              clear A220
              by_cases c23 : x7_2.length < 5864062014805
              · rw [if_pos c23] at H
                have LMc23 := Aside0.mk c23
                clear c23
                obtain ⟨y168, hy168⟩ : ∃ y_ : List (S42), y_ = (x7_2 ++ [(⟨ji8, t167⟩ : S42)]) := ⟨_, rfl⟩
                replace H : (some (y168, 0)) = some (r1, r2) := by first | (rw [hy168]; with_reducible exact H) | (have H2_ := (Option.bind_some _ _).symm.trans H; rw [hy168]; with_reducible exact H2_) | (have H2_ := (Option.bind_some _ _).symm.trans H; with_reducible exact H2_) | with_reducible exact H | (rw [hy168]; exact H) | exact H
                have Ny168 := Aside0.mk hy168
                clear hy168
                simp only [Option.some.injEq, Prod.mk.injEq] at H
                obtain ⟨rfl, rfl⟩ := H
                go_wp2_with (first | ((with_reducible refine gate_callee (f := 45) rfl ?_); refine goesL_ (some 62) rfl rfl Try.func45 (by kernel_rfl) rfl #[.int .i64 a0, .int .i64 (a1.size : Int)] rfl (by (try simp only [List.map_toArray, List.map_cons, List.map_nil]); first | done | rfl | (simp only [List.length_drop, List.length_take]; rfl)) ?_; (with_reducible refine (portageref17_head.calls k2 a0 (a1.size : Int) t167 _ A22.out).mono ?_); rintro e w24 ⟨rfl, hb⟩; refine ⟨_, rfl, ?_⟩; have n0_ := Aside0.mk (Kd.R_below (by (with_reducible repeat (first | apply Kd.R_alloc | apply Kd.R_drewN | apply Kd.R_drew)); exact HO_7.out) hb); have n1_ := Aside0.mk (below_step (by repeat (first | (with_reducible first | exact HB.out | apply below_alloc | apply pw_below_drewN | apply below_drew1) | exact HB.out)) hb); clear HO_7; clear HB; have HO_7 := n0_; have HB := n1_; clear n0_ n1_; (try clear hb); (try clear hb2); (try clear hk); (try clear hi)) | ((with_reducible refine gate_builtin (b := .append) (xs := #[.tmp 57, .tmp 64]) rfl ?_); (try (refine gate_guard (by rfl) ?_; dsimp only)); at_builtin; refine Kd.R_append k42 (w0 := w) w.heap.size rfl (.tmp 57) (.tmp 64) 23 42 (.agg #[(.int .i64 0), (.string ⟨#[]⟩)]) 24 rfl Try.underlying23 info42 rfl (by decide) (by omega) u7 x7_2 (⟨ji8, t167⟩ : S42) [.int .i64 ji8, .string t167] (fun _ => True) (fun _ => False) rfl rfl ?aP (fun _ hk => hk.elim) ?aF ?aO ?aB ?aS ?aL ?_; (case aP => exact k42_mkM _ _ _ (⟨ji8, t167⟩ : S42)); (case aB => exact (by repeat (first | (with_reducible first | exact HB.out | apply below_alloc | apply pw_below_drewN | apply below_drew1) | exact HB.out))); (case aF => exact (fun _ _ => trivial)); (case aO => exact (by (with_reducible repeat (first | apply Kd.R_alloc | apply Kd.R_drewN | apply Kd.R_drew)); exact HO_7.out)); (case aS => exact (below_size (by repeat (first | (with_reducible first | exact HB.out | apply below_alloc | apply pw_below_drewN | apply below_drew1) | exact HB.out)))); (case aL => have := LMc23.out; omega); intro v169 w25 ho hb hg hat; rw [← Ny168.out] at ho; have n0_ := Aside0.mk (hb); have n1_ := Aside0.mk (ho); clear HB; clear HO_7; have HB := n0_; have HO170 := n1_; clear n0_ n1_; clear ho hb hg hat))
                go_ret2
                exact ⟨_, by first | rfl | (simp [errW_none, errW_some] <;> rfl) | (simp only [← hji8]; first | rfl | (simp [errW_none, errW_some] <;> rfl)) | (simp [*, errW_none, errW_some] <;> rfl), by (with_reducible repeat (first | apply Kd.R_alloc | apply Kd.R_drewN | apply Kd.R_drew)); exact HO170.out, by repeat (first | (with_reducible first | exact HB.out | apply below_alloc | apply pw_below_drewN | apply below_drew1) | exact HB.out)⟩
              · rw [if_neg c23] at H
                exact absurd H (by simp)

/-! ### disk_May_1: function 39 -/
def disk_May_1.f (a0 : ByteArray) : Option (Bool) := some ((a0.size : Int) != 64)
set_option maxHeartbeats 8000000 in
set_option maxRecDepth 100000 in
theorem disk_May_1.calls (a0 : ByteArray) (r : Bool) (w : World) (h : disk_May_1.f a0 = some r) :
    Calls Try.prog 39 #[.string a0] w fun e w' => e = .returned (.bool r) ∧ Drawn0 w w' := by
  have H : (some ((a0.size : Int) != 64)) = some r := h
  clear h
  obtain rfl := Option.some.inj H
  go_enter Try.func39, Try.ntmps39
  go_wp2
  go_ret
  exact ⟨by first | rfl | (simp; done) | (simp [*]; done), by repeat (first | exact Drawn0.refl _ | apply Drawn0.step)⟩

/-! ### slices_IndexFunc_string_string_F39: function 49 -/
def slices_IndexFunc_string_string_F39.l0 : Nat → List ByteArray → Int → Int → Option (Int)
  | 0, _, _, _ => none
  | k + 1, x0, x7, x8 => if x8 < x7 then (if 0 ≤ x8 then (if x8 < (x0.length : Int) then ((disk_May_1.f (rdOf ByteArray.empty x0 x8)).bind fun t172 => (if t172 = true then (some x8) else (slices_IndexFunc_string_string_F39.l0 k x0 x7 (wrap64 (x8 + 1))))) else (none)) else (none)) else (some (-1))
def slices_IndexFunc_string_string_F39.f (k : Nat) (l0 : List ByteArray)  : Option (Int) := slices_IndexFunc_string_string_F39.l0 k l0 (l0.length : Int) 0
theorem slices_IndexFunc_string_string_F39.mono_l : ∀ k, (∀ y0 y1 y2, LeO (slices_IndexFunc_string_string_F39.l0 k y0 y1 y2) (slices_IndexFunc_string_string_F39.l0 (k + 1) y0 y1 y2))
  | 0 => fun _ _ _ r h => by simp [slices_IndexFunc_string_string_F39.l0] at h
  | k + 1 => by
    have ih0 := slices_IndexFunc_string_string_F39.mono_l k
    · intro y0 y1 y2
      unfold slices_IndexFunc_string_string_F39.l0
      repeat' first
      | (with_reducible exact ih0 _ _ _)
      | (with_reducible exact LeO.refl _)
      | (with_reducible exact LeO.none _)
      | (with_reducible refine LeO.ite ?_ ?_)
      | (with_reducible refine LeO.bind ?_ (fun _ => ?_))
      | exact ih0 _ _ _
      | exact LeO.none _
      | refine LeO.ite ?_ ?_
      | refine LeO.bind ?_ (fun _ => ?_)
theorem slices_IndexFunc_string_string_F39.mono : ∀ a0 k, LeO (slices_IndexFunc_string_string_F39.f k a0) (slices_IndexFunc_string_string_F39.f (k + 1) a0) := by
  intro a0 k
  have ih0 := slices_IndexFunc_string_string_F39.mono_l k
  unfold slices_IndexFunc_string_string_F39.f
  repeat' first
      | (with_reducible exact ih0 _ _ _)
      | (with_reducible exact LeO.refl _)
      | (with_reducible exact LeO.none _)
      | (with_reducible refine LeO.ite ?_ ?_)
      | (with_reducible refine LeO.bind ?_ (fun _ => ?_))
      | exact ih0 _ _ _
      | exact LeO.none _
      | refine LeO.ite ?_ ?_
      | refine LeO.bind ?_ (fun _ => ?_)
set_option maxHeartbeats 8000000 in
set_option maxRecDepth 100000 in
theorem slices_IndexFunc_string_string_F39.calls (k : Nat) (A0 : Option Addr) (c0 : Nat) (l0 : List ByteArray)  (r : Int) (w : World) (hr0 : Kd.C Kd.string w A0 l0.length l0) (hc0 : l0.length ≤ c0) (h : slices_IndexFunc_string_string_F39.f k l0 = some r) :
    Calls Try.prog 49 #[.slice A0 l0.length c0, .func (.func 39) #[] #[]] w fun e w' => e = .returned (.int .i64 r) ∧ Drawn0 w w' := by
  have HR0 := Aside0.mk hr0
  have HC0 := Aside0.mk hc0
  clear hr0 hc0
  have H : (slices_IndexFunc_string_string_F39.l0 k l0 (l0.length : Int) 0) = some r := h
  clear h
  have H' := Aside0.mk H
  clear H
  go_enter Try.func49, Try.ntmps49
  go_wp2
  go_loopg [8] k (fun kq v8 w' => ∃ (x8_1 : Int), v8 = .int .i64 x8_1 ∧ Aside0 (slices_IndexFunc_string_string_F39.l0 kq l0 (l0.length : Int) x8_1 = some r) ∧ Aside0 (kq ≤ k) ∧ Drawn0 w w')
  case atStart => exact ⟨(0), (by first | rfl | (simp; done) | (simp [*]; done)), H', ⟨Nat.le_refl _⟩, by repeat (first | exact Drawn0.refl _ | apply Drawn0.step)⟩
  case round =>
    clear H'
    try clear p2
    obtain ⟨x8_1, rfl, HA, HK1, ⟨m1, rfl⟩⟩ := hrel
    cases gk with
    | zero => exact absurd HA.out (by simp [slices_IndexFunc_string_string_F39.l0])
    | succ k1 =>
      have H := HA.out
      clear HA
      simp only [slices_IndexFunc_string_string_F39.l0] at H
      by_cases c3 : x8_1 < (l0.length : Int)
      · rw [if_pos c3] at H
        have c3b0 : decide (x8_1 < (l0.length : Int)) = true := decide_eq_true c3
        clear c3
        by_cases c4 : 0 ≤ x8_1
        · rw [if_pos c4] at H
          have c4b0 : decide (0 ≤ x8_1) = true := decide_eq_true c4
          clear c4
          by_cases c5 : x8_1 < (l0.length : Int)
          · rw [if_pos c5] at H
            have c5b0 : decide (x8_1 < (l0.length : Int)) = true := decide_eq_true c5
            clear c5
            replace H := Option.bind_eq_some_iff.mp H
            obtain ⟨t172, A60, H⟩ := H
            replace H : (if t172 = true then (some x8_1) else (slices_IndexFunc_string_string_F39.l0 k1 l0 (l0.length : Int) (wrap64 (x8_1 + 1)))) = some r := H
            have A6 := Aside0.mk A60
            clear A60
            by_cases c7 : t172 = true
            · subst c7
              have H1 : (some x8_1) = some r := by rw [if_pos rfl] at H; exact H
              clear H
              have H := H1
              clear H1
              obtain rfl := Option.some.inj H
              have p171 : 0 ≤ (x8_1 : Int) := of_decide_eq_true (by first | (with_reducible assumption) | assumption)
              have q171 : x8_1 < (l0.length : Int) := of_decide_eq_true (by first | (with_reducible assumption) | assumption)
              obtain ⟨ad171, e171, hx171_0⟩ := Kd.at_string HR0.out x8_1 p171 q171
              cases e171
              replace p171 := eq_true p171
              replace q171 := eq_true q171
              go_wp2_with (first | (go_at_call 39; (with_reducible refine (disk_May_1.calls (rdOf ByteArray.empty l0 x8_1) true _ A6.out).mono ?_); rintro e w' ⟨rfl, ⟨nd, rfl⟩⟩))
              go_ret
              exact ⟨by first | rfl | (simp; done) | (simp [*]; done), by repeat (first | exact Drawn0.refl _ | apply Drawn0.step)⟩
            · replace c7 := Bool.eq_false_iff.mpr c7
              subst c7
              have H1 : (slices_IndexFunc_string_string_F39.l0 k1 l0 (l0.length : Int) (wrap64 (x8_1 + 1))) = some r := by rw [if_neg (show ¬ (false = true) by decide)] at H; exact H
              clear H
              have H := H1
              clear H1
              have H' := Aside0.mk H
              clear H
              have p171 : 0 ≤ (x8_1 : Int) := of_decide_eq_true (by first | (with_reducible assumption) | assumption)
              have q171 : x8_1 < (l0.length : Int) := of_decide_eq_true (by first | (with_reducible assumption) | assumption)
              obtain ⟨ad171, e171, hx171_0⟩ := Kd.at_string HR0.out x8_1 p171 q171
              cases e171
              replace p171 := eq_true p171
              replace q171 := eq_true q171
              go_wp2_with (first | (go_at_call 39; (with_reducible refine (disk_May_1.calls (rdOf ByteArray.empty l0 x8_1) false _ A6.out).mono ?_); rintro e w' ⟨rfl, ⟨nd, rfl⟩⟩))
              go_roundg k1
              case measure => have := HK1.out; omega
              case rel => exact ⟨(wrap64 (x8_1 + 1)), (by first | rfl | (simp; done) | (simp [*]; done)), H', ⟨by have := HK1.out; omega⟩, by repeat (first | exact Drawn0.refl _ | apply Drawn0.step)⟩
          · rw [if_neg c5] at H
            exact absurd H (by simp)
        · rw [if_neg c4] at H
          exact absurd H (by simp)
      · rw [if_neg c3] at H
        have c3b0 : decide (x8_1 < (l0.length : Int)) = false := decide_eq_false c3
        clear c3
        obtain rfl := Option.some.inj H
        go_wp2
        go_ret
        exact ⟨by first | rfl | (simp; done) | (simp [*]; done), by repeat (first | exact Drawn0.refl _ | apply Drawn0.step)⟩

end Go.Proofs.Ytdccnjinehcenaa.LS
