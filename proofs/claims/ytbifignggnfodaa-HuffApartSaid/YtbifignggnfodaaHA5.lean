-- Written by a program of this session out of the translation (a changed copy of the kit's printer).
import Derived.Test.YtbifignggnfodaaHA0
import Derived.Test.YtbifignggnfodaaHA4
namespace Go.Proofs.Ytbifignggnfodaa.HA
open Go.RowKit Go.Proofs.YtbifignggnfodaaW.PrintWords Go.Proofs.YtbifignggnfodaaW.PrintLast Go.Proofs.YtbifignggnfodaaW.PrintMore
attribute [local go_sem] max2_int min2_int max_two min_two max_three min_three max_four min_four   -- for this text's walks alone
set_option linter.unusedVariables false
set_option linter.unusedSimpArgs false

/-! ### portagelaw3_HuffApart: function 4 -/
mutual
def portagelaw3_HuffApart.l0 : Nat → List Int → List (S43) → Int → Option (Bool)
  | 0, _, _, _ => none
  | k + 1, x0, x3, x5 => if x5 < (x3.length : Int) then (if 0 ≤ x5 then (if x5 < (x0.length : Int) then (if ((rd_T43 x3 x5).f0) = (rd x0 x5) then (if ((rd_T43 x3 x5).f1) < 0 then (portagelaw3_HuffApart.j1 k x0 x3 x5 true) else (portagelaw3_HuffApart.j1 k x0 x3 x5 (decide (((rd_T43 x3 x5).f1) ≥ (wrap64 (2 ^ (mn (mx ((rd_T43 x3 x5).f0) 0) 15).toNat)))))) else (portagelaw3_HuffApart.j1 k x0 x3 x5 true)) else (none)) else (none)) else (some true)
def portagelaw3_HuffApart.j1 : Nat → List Int → List (S43) → Int → Bool → Option (Bool)
  | 0, _, _, _, _ => none
  | k + 1, x0, x3, x5, x71 => if x71 = true then (none) else (if 0 ≤ x5 then (if x5 < (x3.length : Int) then (if ((rd_T43 x3 x5).f0) = 0 then (portagelaw3_HuffApart.l0 k x0 x3 (wrap64 (x5 + 1))) else ((huff_Find.f x0 ((rd_T43 x3 x5).f0) ((rd_T43 x3 x5).f1)).bind fun bt155 => (if bt155.1 = x5 then (if bt155.2.1 = true then ((portagelaw0_Num.f bt155.2.2).bind fun t158 => (portagelaw3_HuffApart.j2 k x0 x3 x5 (t158 != 0))) else (portagelaw3_HuffApart.j2 k x0 x3 x5 true)) else (portagelaw3_HuffApart.j2 k x0 x3 x5 true)))) else (none)) else (none))
def portagelaw3_HuffApart.j2 : Nat → List Int → List (S43) → Int → Bool → Option (Bool)
  | 0, _, _, _, _ => none
  | k + 1, x0, x3, x5, x105 => if x105 = true then (none) else (portagelaw3_HuffApart.l1 k x0 x3 x5 0)
def portagelaw3_HuffApart.l1 : Nat → List Int → List (S43) → Int → Int → Option (Bool)
  | 0, _, _, _, _ => none
  | k + 1, x0, x3, x5, x9 => if x9 < (x3.length : Int) then (if 0 ≤ x9 then (if 0 ≤ x5 then (if x5 < (x3.length : Int) then (if x9 = x5 then (if x9 < x5 then (if (wrap64 (((rd_T43 x3 x9).f0) - ((rd_T43 x3 x5).f0))) = 0 then (portagelaw3_HuffApart.j4 k x0 x3 x5 x9 (decide (((rd_T43 x3 x9).f1) ≥ ((rd_T43 x3 x5).f1)))) else (portagelaw3_HuffApart.j4 k x0 x3 x5 x9 false)) else (portagelaw3_HuffApart.j4 k x0 x3 x5 x9 false)) else (if (wrap64 (((rd_T43 x3 x9).f0) - ((rd_T43 x3 x5).f0))) ≥ 0 then (if (wrap64 (((rd_T43 x3 x9).f0) - ((rd_T43 x3 x5).f0))) ≤ 15 then (if 0 ≤ (wrap64 (((rd_T43 x3 x9).f0) - ((rd_T43 x3 x5).f0))) then (if (shr .i64 ((rd_T43 x3 x9).f1) (wrap64 (((rd_T43 x3 x9).f0) - ((rd_T43 x3 x5).f0)))) = ((rd_T43 x3 x5).f1) then (portagelaw3_HuffApart.j4 k x0 x3 x5 x9 true) else (if x9 < x5 then (if (wrap64 (((rd_T43 x3 x9).f0) - ((rd_T43 x3 x5).f0))) = 0 then (portagelaw3_HuffApart.j4 k x0 x3 x5 x9 (decide (((rd_T43 x3 x9).f1) ≥ ((rd_T43 x3 x5).f1)))) else (portagelaw3_HuffApart.j4 k x0 x3 x5 x9 false)) else (portagelaw3_HuffApart.j4 k x0 x3 x5 x9 false))) else (none)) else (if x9 < x5 then (if (wrap64 (((rd_T43 x3 x9).f0) - ((rd_T43 x3 x5).f0))) = 0 then (portagelaw3_HuffApart.j4 k x0 x3 x5 x9 (decide (((rd_T43 x3 x9).f1) ≥ ((rd_T43 x3 x5).f1)))) else (portagelaw3_HuffApart.j4 k x0 x3 x5 x9 false)) else (portagelaw3_HuffApart.j4 k x0 x3 x5 x9 false))) else (if x9 < x5 then (if (wrap64 (((rd_T43 x3 x9).f0) - ((rd_T43 x3 x5).f0))) = 0 then (portagelaw3_HuffApart.j4 k x0 x3 x5 x9 (decide (((rd_T43 x3 x9).f1) ≥ ((rd_T43 x3 x5).f1)))) else (portagelaw3_HuffApart.j4 k x0 x3 x5 x9 false)) else (portagelaw3_HuffApart.j4 k x0 x3 x5 x9 false)))) else (none)) else (none)) else (none)) else (portagelaw3_HuffApart.l0 k x0 x3 (wrap64 (x5 + 1)))
def portagelaw3_HuffApart.j4 : Nat → List Int → List (S43) → Int → Int → Bool → Option (Bool)
  | 0, _, _, _, _, _ => none
  | k + 1, x0, x3, x5, x9, x170 => if x170 = true then (none) else (portagelaw3_HuffApart.l1 k x0 x3 x5 (wrap64 (x9 + 1)))
end
def portagelaw3_HuffApart.f (k : Nat) (l0 : List Int) : Option (Bool) := (portagelaw3_awake.f k).bind fun t141 => (if t141 = true then (if (l0.length : Int) > 60 then (some true) else ((huff_Codes.f l0).bind fun bt142 => ((portagelaw0_Num.f bt142.2).bind fun t146 => (if t146 = 0 then (if (bt142.1.length : Int) = (l0.length : Int) then (portagelaw3_HuffApart.l0 k l0 bt142.1 0) else (none)) else (some ((bt142.1.length : Int) == 0)))))) else (none))
theorem portagelaw3_HuffApart.mono_l : ∀ k, (∀ y0 y1 y2, LeO (portagelaw3_HuffApart.l0 k y0 y1 y2) (portagelaw3_HuffApart.l0 (k + 1) y0 y1 y2)) ∧ (∀ y0 y1 y2 y3, LeO (portagelaw3_HuffApart.j1 k y0 y1 y2 y3) (portagelaw3_HuffApart.j1 (k + 1) y0 y1 y2 y3)) ∧ (∀ y0 y1 y2 y3, LeO (portagelaw3_HuffApart.j2 k y0 y1 y2 y3) (portagelaw3_HuffApart.j2 (k + 1) y0 y1 y2 y3)) ∧ (∀ y0 y1 y2 y3, LeO (portagelaw3_HuffApart.l1 k y0 y1 y2 y3) (portagelaw3_HuffApart.l1 (k + 1) y0 y1 y2 y3)) ∧ (∀ y0 y1 y2 y3 y4, LeO (portagelaw3_HuffApart.j4 k y0 y1 y2 y3 y4) (portagelaw3_HuffApart.j4 (k + 1) y0 y1 y2 y3 y4))
  | 0 => ⟨fun _ _ _ r h => by simp [portagelaw3_HuffApart.l0] at h, fun _ _ _ _ r h => by simp [portagelaw3_HuffApart.j1] at h, fun _ _ _ _ r h => by simp [portagelaw3_HuffApart.j2] at h, fun _ _ _ _ r h => by simp [portagelaw3_HuffApart.l1] at h, fun _ _ _ _ _ r h => by simp [portagelaw3_HuffApart.j4] at h⟩
  | k + 1 => by
    obtain ⟨ih0, ih1, ih2, ih3, ih4⟩ := portagelaw3_HuffApart.mono_l k
    refine ⟨?_, ?_, ?_, ?_, ?_⟩
    · intro y0 y1 y2
      unfold portagelaw3_HuffApart.l0
      repeat' first
      | (with_reducible exact ih0 _ _ _)
      | (with_reducible exact ih1 _ _ _ _)
      | (with_reducible exact ih2 _ _ _ _)
      | (with_reducible exact ih3 _ _ _ _)
      | (with_reducible exact ih4 _ _ _ _ _)
      | (with_reducible exact portagelaw3_awake.mono _)
      | (with_reducible exact LeO.refl _)
      | (with_reducible exact LeO.none _)
      | (with_reducible refine LeO.ite ?_ ?_)
      | (with_reducible refine LeO.bind ?_ (fun _ => ?_))
      | exact ih0 _ _ _
      | exact ih1 _ _ _ _
      | exact ih2 _ _ _ _
      | exact ih3 _ _ _ _
      | exact ih4 _ _ _ _ _
      | exact portagelaw3_awake.mono _
      | exact LeO.none _
      | refine LeO.ite ?_ ?_
      | refine LeO.bind ?_ (fun _ => ?_)
    · intro y0 y1 y2 y3
      unfold portagelaw3_HuffApart.j1
      repeat' first
      | (with_reducible exact ih0 _ _ _)
      | (with_reducible exact ih1 _ _ _ _)
      | (with_reducible exact ih2 _ _ _ _)
      | (with_reducible exact ih3 _ _ _ _)
      | (with_reducible exact ih4 _ _ _ _ _)
      | (with_reducible exact portagelaw3_awake.mono _)
      | (with_reducible exact LeO.refl _)
      | (with_reducible exact LeO.none _)
      | (with_reducible refine LeO.ite ?_ ?_)
      | (with_reducible refine LeO.bind ?_ (fun _ => ?_))
      | exact ih0 _ _ _
      | exact ih1 _ _ _ _
      | exact ih2 _ _ _ _
      | exact ih3 _ _ _ _
      | exact ih4 _ _ _ _ _
      | exact portagelaw3_awake.mono _
      | exact LeO.none _
      | refine LeO.ite ?_ ?_
      | refine LeO.bind ?_ (fun _ => ?_)
    · intro y0 y1 y2 y3
      unfold portagelaw3_HuffApart.j2
      repeat' first
      | (with_reducible exact ih0 _ _ _)
      | (with_reducible exact ih1 _ _ _ _)
      | (with_reducible exact ih2 _ _ _ _)
      | (with_reducible exact ih3 _ _ _ _)
      | (with_reducible exact ih4 _ _ _ _ _)
      | (with_reducible exact portagelaw3_awake.mono _)
      | (with_reducible exact LeO.refl _)
      | (with_reducible exact LeO.none _)
      | (with_reducible refine LeO.ite ?_ ?_)
      | (with_reducible refine LeO.bind ?_ (fun _ => ?_))
      | exact ih0 _ _ _
      | exact ih1 _ _ _ _
      | exact ih2 _ _ _ _
      | exact ih3 _ _ _ _
      | exact ih4 _ _ _ _ _
      | exact portagelaw3_awake.mono _
      | exact LeO.none _
      | refine LeO.ite ?_ ?_
      | refine LeO.bind ?_ (fun _ => ?_)
    · intro y0 y1 y2 y3
      unfold portagelaw3_HuffApart.l1
      repeat' first
      | (with_reducible exact ih0 _ _ _)
      | (with_reducible exact ih1 _ _ _ _)
      | (with_reducible exact ih2 _ _ _ _)
      | (with_reducible exact ih3 _ _ _ _)
      | (with_reducible exact ih4 _ _ _ _ _)
      | (with_reducible exact portagelaw3_awake.mono _)
      | (with_reducible exact LeO.refl _)
      | (with_reducible exact LeO.none _)
      | (with_reducible refine LeO.ite ?_ ?_)
      | (with_reducible refine LeO.bind ?_ (fun _ => ?_))
      | exact ih0 _ _ _
      | exact ih1 _ _ _ _
      | exact ih2 _ _ _ _
      | exact ih3 _ _ _ _
      | exact ih4 _ _ _ _ _
      | exact portagelaw3_awake.mono _
      | exact LeO.none _
      | refine LeO.ite ?_ ?_
      | refine LeO.bind ?_ (fun _ => ?_)
    · intro y0 y1 y2 y3 y4
      unfold portagelaw3_HuffApart.j4
      repeat' first
      | (with_reducible exact ih0 _ _ _)
      | (with_reducible exact ih1 _ _ _ _)
      | (with_reducible exact ih2 _ _ _ _)
      | (with_reducible exact ih3 _ _ _ _)
      | (with_reducible exact ih4 _ _ _ _ _)
      | (with_reducible exact portagelaw3_awake.mono _)
      | (with_reducible exact LeO.refl _)
      | (with_reducible exact LeO.none _)
      | (with_reducible refine LeO.ite ?_ ?_)
      | (with_reducible refine LeO.bind ?_ (fun _ => ?_))
      | exact ih0 _ _ _
      | exact ih1 _ _ _ _
      | exact ih2 _ _ _ _
      | exact ih3 _ _ _ _
      | exact ih4 _ _ _ _ _
      | exact portagelaw3_awake.mono _
      | exact LeO.none _
      | refine LeO.ite ?_ ?_
      | refine LeO.bind ?_ (fun _ => ?_)
theorem portagelaw3_HuffApart.mono : ∀ a0 k, LeO (portagelaw3_HuffApart.f k a0) (portagelaw3_HuffApart.f (k + 1) a0) := by
  intro a0 k
  obtain ⟨ih0, ih1, ih2, ih3, ih4⟩ := portagelaw3_HuffApart.mono_l k
  unfold portagelaw3_HuffApart.f
  repeat' first
      | (with_reducible exact ih0 _ _ _)
      | (with_reducible exact ih1 _ _ _ _)
      | (with_reducible exact ih2 _ _ _ _)
      | (with_reducible exact ih3 _ _ _ _)
      | (with_reducible exact ih4 _ _ _ _ _)
      | (with_reducible exact portagelaw3_awake.mono _)
      | (with_reducible exact LeO.refl _)
      | (with_reducible exact LeO.none _)
      | (with_reducible refine LeO.ite ?_ ?_)
      | (with_reducible refine LeO.bind ?_ (fun _ => ?_))
      | exact ih0 _ _ _
      | exact ih1 _ _ _ _
      | exact ih2 _ _ _ _
      | exact ih3 _ _ _ _
      | exact ih4 _ _ _ _ _
      | exact portagelaw3_awake.mono _
      | exact LeO.none _
      | refine LeO.ite ?_ ?_
      | refine LeO.bind ?_ (fun _ => ?_)
def portagelaw3_HuffApart.T13 : Bool × List (List Nat × List Nat) := (true, [([], []), ([], []), ([0, 1], [0, 1]), ([2], [2]), ([3], [3]), ([], []), ([], []), ([5, 6], [5, 6]), ([7], [7]), ([4, 8], [4, 8]), ([9], [9]), ([10], [10]), ([10], [10]), ([11, 12, 10], [10, 11, 12]), ([13, 10], [10, 13]), ([14, 10], [10, 14]), ([15, 10], [10, 15]), ([10, 16], [10, 16]), ([17, 10], [17]), ([18], [18]), ([18], [18]), ([19, 20, 18], [18, 19, 20]), ([21, 18], [18, 21]), ([22, 18], [18, 22]), ([18], [18]), ([18], [18]), ([24, 25, 18], [18, 24, 25]), ([26, 18], [18, 26]), ([27, 18], [18, 27]), ([28, 18], [18, 28]), ([29, 18], [18, 29]), ([30, 18], [18, 30]), ([23, 31, 18], [18, 23, 31]), ([18, 32], [18, 32])])
def portagelaw3_HuffApart.B13 : List Nat := [0, 0, 3, 7, 15, 0, 0, 96, 224, 511, 1023, 2047, 2047, 8191, 16383, 32767, 65535, 131071, 262143, 524287, 524287, 2097151, 4194303, 8388607, 524287, 524287, 50855935, 117964799, 252182527, 520617983, 1057488895, 2131230719, 4294967295, 8589934591]
theorem portagelaw3_HuffApart.tab13 : rtab .any (opsOf Try.f4 13) = portagelaw3_HuffApart.T13 := by kernel_rfl
theorem portagelaw3_HuffApart.bits13 : waitsOk portagelaw3_HuffApart.T13.2 portagelaw3_HuffApart.B13 = true := by kernel_rfl
def portagelaw3_HuffApart.T16 : Bool × List (List Nat × List Nat) := (true, [([], []), ([], []), ([], []), ([1, 2], [1, 2]), ([3], [3]), ([4], [4]), ([], []), ([], []), ([6, 7], [6, 7]), ([8], [8]), ([9], [9]), ([0, 5, 10], [0, 5, 10]), ([11], [11]), ([12], [12]), ([12], [12]), ([12], [12]), ([13, 11, 0, 1, 2, 3, 4, 5, 6, 7, 8, 9, 10, 11, 12, 13], [13]), ([14, 16, 0, 1, 2, 3, 4, 5, 6, 7, 8, 9, 10, 11, 12, 13, 14, 16], [14]), ([15, 17, 0, 1, 2, 3, 4, 5, 6, 7, 8, 9, 10, 11, 12, 13, 14, 15, 16, 17], [15])])
def portagelaw3_HuffApart.B16 : List Nat := [0, 0, 0, 6, 14, 30, 0, 0, 192, 448, 960, 2047, 4095, 8191, 8191, 8191, 16383, 98303, 262143]
theorem portagelaw3_HuffApart.tab16 : rtab .any (opsOf Try.f4 16) = portagelaw3_HuffApart.T16 := by kernel_rfl
theorem portagelaw3_HuffApart.bits16 : waitsOk portagelaw3_HuffApart.T16.2 portagelaw3_HuffApart.B16 = true := by kernel_rfl
def portagelaw3_HuffApart.T22 : Bool × List (List Nat × List Nat) := (true, [([], []), ([], []), ([0, 1], [0, 1]), ([2], [2]), ([3], [3]), ([], []), ([], []), ([5, 6], [5, 6]), ([7], [7]), ([8], [8]), ([4, 9], [4, 9]), ([10, 0, 1, 2, 3, 4, 5, 6, 7, 8, 9, 10], [10])])
def portagelaw3_HuffApart.B22 : List Nat := [0, 0, 3, 7, 15, 0, 0, 96, 224, 480, 1023, 2047]
theorem portagelaw3_HuffApart.tab22 : rtab .any (opsOf Try.f4 22) = portagelaw3_HuffApart.T22 := by kernel_rfl
theorem portagelaw3_HuffApart.bits22 : waitsOk portagelaw3_HuffApart.T22.2 portagelaw3_HuffApart.B22 = true := by kernel_rfl
def portagelaw3_HuffApart.T23 : Bool × List (List Nat × List Nat) := (true, [([], []), ([], []), ([0, 1], [0, 1]), ([2], [2]), ([3], [3]), ([4, 3], [3, 4]), ([3, 5], [3, 5]), ([6, 3], [6]), ([7], [7]), ([8, 7], [7, 8]), ([7, 9], [7, 9]), ([10, 7], [10]), ([11], [11]), ([11], [11]), ([12, 13, 11], [11, 12, 13]), ([14, 11], [11, 14]), ([15, 11], [11, 15]), ([11], [11]), ([16, 17, 11], [11, 16, 17]), ([11], [11]), ([11], [11]), ([19, 20, 11], [11, 19, 20]), ([21, 11], [11, 21]), ([22, 11], [11, 22]), ([18, 23, 11], [11, 18, 23]), ([11, 24], [11, 24]), ([25, 11], [25]), ([26], [26]), ([26], [26]), ([27, 28, 26], [26, 27, 28]), ([29, 26, 26], [26, 29]), ([30], [30]), ([31, 30], [30, 31]), ([30, 32, 26], [26, 30, 32]), ([33, 30, 26], [26, 33]), ([34], [34]), ([34], [34]), ([35, 36, 34], [34, 35, 36]), ([37, 34], [34, 37]), ([38, 34], [34, 38]), ([34], [34]), ([34], [34]), ([40, 41, 34], [34, 40, 41]), ([42, 34], [34, 42]), ([43, 34], [34, 43]), ([39, 44, 34], [34, 39, 44]), ([34, 45, 26], [26, 34, 45]), ([26, 46], [26, 46])])
def portagelaw3_HuffApart.B23 : List Nat := [0, 0, 3, 7, 15, 31, 63, 127, 255, 511, 1023, 2047, 4095, 4095, 16383, 32767, 65535, 4095, 262143, 4095, 4095, 1576959, 3674111, 7868415, 16777215, 33554431, 67108863, 134217727, 134217727, 536870911, 1073741823, 2147483647, 4294967295, 8589934591, 17179869183, 34359738367, 34359738367, 137438953471, 274877906943, 549755813887, 34359738367, 34359738367, 3332894621695, 7730941132799, 16527034155007, 35184372088831, 70368744177663, 140737488355327]
theorem portagelaw3_HuffApart.tab23 : rtab .any (opsOf Try.f4 23) = portagelaw3_HuffApart.T23 := by kernel_rfl
theorem portagelaw3_HuffApart.bits23 : waitsOk portagelaw3_HuffApart.T23.2 portagelaw3_HuffApart.B23 = true := by kernel_rfl
set_option maxHeartbeats 8000000 in
set_option maxRecDepth 100000 in
theorem portagelaw3_HuffApart.calls (k : Nat) (A0 : Option Addr) (c0 : Nat) (l0 : List Int) (r : Bool) (w : World) (hr0 : Kd.C (Kd.int .i64) w A0 l0.length l0) (hc0 : l0.length ≤ c0) (h : portagelaw3_HuffApart.f k l0 = some r) :
    Calls Try.prog 4 #[.slice A0 l0.length c0] w fun e w' => e = .returned (.bool r) ∧ Below w.heap.size w w' := by
  have HR0 := Aside0.mk hr0
  have HC0 := Aside0.mk hc0
  clear hr0 hc0
  have HB := Aside0.mk (Below.refl w.heap.size w)
  have H : ((portagelaw3_awake.f k).bind fun t141 => (if t141 = true then (if (l0.length : Int) > 60 then (some true) else ((huff_Codes.f l0).bind fun bt142 => ((portagelaw0_Num.f bt142.2).bind fun t146 => (if t146 = 0 then (if (bt142.1.length : Int) = (l0.length : Int) then (portagelaw3_HuffApart.l0 k l0 bt142.1 0) else (none)) else (some ((bt142.1.length : Int) == 0)))))) else (none))) = some r := h
  clear h
  replace H := Option.bind_eq_some_iff.mp H
  obtain ⟨t141, A20, H⟩ := H
  replace H : (if t141 = true then (if (l0.length : Int) > 60 then (some true) else ((huff_Codes.f l0).bind fun bt142 => ((portagelaw0_Num.f bt142.2).bind fun t146 => (if t146 = 0 then (if (bt142.1.length : Int) = (l0.length : Int) then (portagelaw3_HuffApart.l0 k l0 bt142.1 0) else (none)) else (some ((bt142.1.length : Int) == 0)))))) else (none)) = some r := H
  have A2 := Aside0.mk A20
  clear A20
  by_cases c3 : t141 = true
  · subst c3
    have H1 : (if (l0.length : Int) > 60 then (some true) else ((huff_Codes.f l0).bind fun bt142 => ((portagelaw0_Num.f bt142.2).bind fun t146 => (if t146 = 0 then (if (bt142.1.length : Int) = (l0.length : Int) then (portagelaw3_HuffApart.l0 k l0 bt142.1 0) else (none)) else (some ((bt142.1.length : Int) == 0)))))) = some r := by rw [if_pos rfl] at H; exact H
    clear H
    have H := H1
    clear H1
    by_cases c4 : (l0.length : Int) > 60
    · rw [if_pos c4] at H
      have c4b0 : decide (60 < (l0.length : Int)) = true := decide_eq_true c4
      have c4b1 : decide (60 < l0.length) = true := decide_eq_true (by omega)
      clear c4
      obtain rfl := Option.some.inj H
      go_enter Try.func4, Try.ntmps4
      go_wp2_with (first | ((with_reducible refine gate_callee (f := 34) rfl ?_); refine goesL_ (some 11) rfl rfl Try.func34 (by kernel_rfl) rfl #[] rfl (by (try simp only [List.map_toArray, List.map_cons, List.map_nil]); first | done | rfl | (simp only [List.length_drop, List.length_take]; rfl)) ?_; (with_reducible refine (portagelaw3_awake.calls k  true _ A2.out).mono ?_); rintro e w5 ⟨rfl, hb⟩; refine ⟨_, rfl, ?_⟩; have n0_ := Aside0.mk (below_step (by repeat (first | (with_reducible first | exact HB.out | apply below_alloc | apply pw_below_drewN | apply below_drew1) | exact HB.out)) hb); clear HB; have HB := n0_; clear n0_; (try clear hb); (try clear hb2); (try clear hk); (try clear hi)))
      go_ret
      exact ⟨by first | rfl | (simp [errW_none, errW_some] <;> rfl) | (simp [*, errW_none, errW_some] <;> rfl), by repeat (first | (with_reducible first | exact HB.out | apply below_alloc | apply pw_below_drewN | apply below_drew1) | exact HB.out)⟩
    · rw [if_neg c4] at H
      have c4b0 : decide (60 < (l0.length : Int)) = false := decide_eq_false c4
      have c4b1 : decide (60 < l0.length) = false := decide_eq_false (by omega)
      clear c4
      replace H := Option.bind_eq_some_iff.mp H
      obtain ⟨⟨t142, t143⟩, A60, H⟩ := H
      replace H : ((portagelaw0_Num.f t143).bind fun t146 => (if t146 = 0 then (if (t142.length : Int) = (l0.length : Int) then (portagelaw3_HuffApart.l0 k l0 t142 0) else (none)) else (some ((t142.length : Int) == 0)))) = some r := H
      have A6 := Aside0.mk A60
      clear A60
      replace H := Option.bind_eq_some_iff.mp H
      obtain ⟨t146, A70, H⟩ := H
      replace H : (if t146 = 0 then (if (t142.length : Int) = (l0.length : Int) then (portagelaw3_HuffApart.l0 k l0 t142 0) else (none)) else (some ((t142.length : Int) == 0))) = some r := H
      have A7 := Aside0.mk A70
      clear A70
      by_cases c8 : t146 = 0
      · rw [if_pos c8] at H
        have c8b0 : (t146 == 0) = true := beq_iff_eq.mpr c8
        have c8b1 : (t146 != 0) = false := bne_eq_false_iff_eq.mpr c8
        clear c8
        by_cases c9 : (t142.length : Int) = (l0.length : Int)
        · rw [if_pos c9] at H
          have c9b0 : ((t142.length : Int) == (l0.length : Int)) = true := beq_iff_eq.mpr c9
          have c9b1 : ((t142.length : Int) != (l0.length : Int)) = false := bne_eq_false_iff_eq.mpr c9
          have c9b2 : (t142.length == l0.length) = true := by first | simpa using c9 | (simp at c9 ⊢; omega)
          clear c9
          have H' := Aside0.mk H
          clear H
          go_enter Try.func4, Try.ntmps4
          go_wp2_with (first | ((with_reducible refine gate_callee (f := 34) rfl ?_); refine goesL_ (some 11) rfl rfl Try.func34 (by kernel_rfl) rfl #[] rfl (by (try simp only [List.map_toArray, List.map_cons, List.map_nil]); first | done | rfl | (simp only [List.length_drop, List.length_take]; rfl)) ?_; (with_reducible refine (portagelaw3_awake.calls k  true _ A2.out).mono ?_); rintro e w10 ⟨rfl, hb⟩; refine ⟨_, rfl, ?_⟩; have n0_ := Aside0.mk (below_step (by repeat (first | (with_reducible first | exact HB.out | apply below_alloc | apply pw_below_drewN | apply below_drew1) | exact HB.out)) hb); clear HB; have HB := n0_; clear n0_; (try clear hb); (try clear hb2); (try clear hk); (try clear hi)) | ((with_reducible refine gate_callee (f := 24) rfl ?_); refine goesL_ (some 18) rfl rfl Try.func24 (by kernel_rfl) rfl #[.slice A0 l0.length c0] rfl (by (try simp only [List.map_toArray, List.map_cons, List.map_nil]); first | done | rfl | (simp only [List.length_drop, List.length_take]; rfl)) ?_; (with_reducible refine (huff_Codes.calls _ _ l0 t142 t143 _ ?side1 ?side2 A6.out).mono ?_); (case side1 => repeat (first | exact (Kd.C_below HR0.out HB.out) | (with_reducible refine Kd.C_alloc ?_ _) | (with_reducible refine Kd.C_drewN ?_ _) | (with_reducible refine Kd.C_drew ?_))); (case side2 => exact HC0.out); rintro e w11 ⟨v144, rfl, ho0, hb⟩; refine ⟨_, rfl, ?_⟩; have n0_ := Aside0.mk (Kd.R_lower ho0 (below_size (by repeat (first | (with_reducible first | exact HB.out | apply below_alloc | apply pw_below_drewN | apply below_drew1) | exact HB.out)))); have n1_ := Aside0.mk (below_step (by repeat (first | (with_reducible first | exact HB.out | apply below_alloc | apply pw_below_drewN | apply below_drew1) | exact HB.out)) hb); clear HB; have HO145 := n0_; have HB := n1_; clear n0_ n1_; (try clear hb); (try clear hb2); (try clear hk); (try clear hi); (try clear ho0)) | ((with_reducible refine gate_callee (f := 29) rfl ?_); refine goesL_ (some 22) rfl rfl Try.func29 (by kernel_rfl) rfl #[.int .i64 t143] rfl (by (try simp only [List.map_toArray, List.map_cons, List.map_nil]); first | done | rfl | (simp only [List.length_drop, List.length_take]; rfl)) ?_; (with_reducible refine (portagelaw0_Num.calls t143 t146 _ A7.out).mono ?_); rintro e w' ⟨rfl, ⟨nd, rfl⟩⟩; refine ⟨_, rfl, ?_⟩; obtain ⟨Ao12, co12, eo12⟩ := Kd.R_slice HO145.out; subst eo12))
          go_loopg [5] k (fun kq v5 w' => ∃ (x5_1 : Int), v5 = .int .i64 x5_1 ∧ Aside0 (portagelaw3_HuffApart.l0 kq l0 t142 x5_1 = some r) ∧ Aside0 (kq ≤ k) ∧ Aside0 (Kd.R k43 43 w' w.heap.size (fun _ => True) (.slice Ao12 t142.length co12) t142) ∧ Aside0 (Below w.heap.size w w'))
          case atStart => exact ⟨(0), (by first | rfl | (simp; done) | (simp [*]; done)), H', ⟨Nat.le_refl _⟩, ⟨by (with_reducible repeat (first | apply Kd.R_alloc | apply Kd.R_drewN | apply Kd.R_drew)); exact HO145.out⟩, ⟨by repeat (first | (with_reducible first | exact HB.out | apply below_alloc | apply pw_below_drewN | apply below_drew1) | exact HB.out)⟩⟩
          case round =>
            clear H'
            try clear c2
            try clear p2
            try clear c3
            try clear c4
            try clear c4b0
            try clear c4b1
            try clear c8
            try clear c8b0
            try clear c8b1
            try clear c9
            try clear c9b0
            try clear c9b1
            try clear c9b2
            obtain ⟨x5_1, rfl, HA, HK1, HO_3, HB⟩ := hrel
            cases gk with
            | zero => exact absurd HA.out (by simp [portagelaw3_HuffApart.l0])
            | succ k1 =>
              have H := HA.out
              clear HA
              simp only [portagelaw3_HuffApart.l0] at H
              by_cases c13 : x5_1 < (t142.length : Int)
              · rw [if_pos c13] at H
                have c13b0 : decide (x5_1 < (t142.length : Int)) = true := decide_eq_true c13
                clear c13
                have HC14 := Aside0.mk H
                clear H
                go_upto_region 13 with (fail)
                go_cut [71] (fun v71 wc => ∃ (kq : Nat) (x71_13 : Bool), v71 = .bool x71_13 ∧ Aside0 (portagelaw3_HuffApart.j1 kq l0 t142 x5_1 x71_13 = some r) ∧ Aside0 (kq ≤ k1) ∧ Aside0 (Kd.R k43 43 wc w.heap.size (fun _ => True) (.slice Ao12 t142.length co12) t142) ∧ Aside0 (Below w.heap.size w wc))
                case first =>
                  have H := HC14.out
                  clear HC14
                  by_cases c15 : 0 ≤ x5_1
                  · rw [if_pos c15] at H
                    have c15b0 : decide (0 ≤ x5_1) = true := decide_eq_true c15
                    clear c15
                    (first | rw [c15b0] | (simp only [i64_w, i32_w]; rw [c15b0]) | skip)
                    by_cases c16 : x5_1 < (l0.length : Int)
                    · rw [if_pos c16] at H
                      have c16b0 : decide (x5_1 < (l0.length : Int)) = true := decide_eq_true c16
                      clear c16
                      by_cases c17 : ((rd_T43 t142 x5_1).f0) = (rd l0 x5_1)
                      · rw [if_pos c17] at H
                        have c17b0 : (((rd_T43 t142 x5_1).f0) == (rd l0 x5_1)) = true := beq_iff_eq.mpr c17
                        have c17b1 : (((rd_T43 t142 x5_1).f0) != (rd l0 x5_1)) = false := bne_eq_false_iff_eq.mpr c17
                        clear c17
                        by_cases c18 : ((rd_T43 t142 x5_1).f1) < 0
                        · rw [if_pos c18] at H
                          have c18b0 : decide (((rd_T43 t142 x5_1).f1) < 0) = true := decide_eq_true c18
                          clear c18
                          have H' := Aside0.mk H
                          clear H
                          try go_wp2
                          have p147 : 0 ≤ (x5_1 : Int) := of_decide_eq_true (by first | (with_reducible assumption) | assumption)
                          have q147 : x5_1 < (t142.length : Int) := of_decide_eq_true (by first | (with_reducible assumption) | assumption)
                          obtain ⟨ad147, e147, hx147_0, hx147_1⟩ := at_T43 (Kd.R_reads' HO_3.out).2.2 x5_1 p147 q147
                          cases e147
                          replace p147 := eq_true p147
                          replace q147 := eq_true q147
                          have p148 : 0 ≤ (x5_1 : Int) := of_decide_eq_true (by first | (with_reducible assumption) | assumption)
                          have q148 : x5_1 < (l0.length : Int) := of_decide_eq_true (by first | (with_reducible assumption) | assumption)
                          obtain ⟨ad148, e148, hx148_0⟩ := Kd.at_int HR0.out x5_1 p148 q148
                          have hw148_0 := hx148_0
                          cases e148
                          replace hx148_0 := (HB.out.cell (World.block_lt_of_cell? w _ hx148_0)).trans hx148_0
                          replace p148 := eq_true p148
                          replace q148 := eq_true q148
                          have p149 : 0 ≤ (x5_1 : Int) := of_decide_eq_true (by first | (with_reducible assumption) | assumption)
                          have q149 : x5_1 < (t142.length : Int) := of_decide_eq_true (by first | (with_reducible assumption) | assumption)
                          obtain ⟨ad149, e149, hx149_0, hx149_1⟩ := at_T43 (Kd.R_reads' HO_3.out).2.2 x5_1 p149 q149
                          obtain rfl : ad147 = ad149 := (by injection e149)
                          replace p149 := eq_true p149
                          replace q149 := eq_true q149
                          as_aux_lemma =>
                            go_quiet ((fail))
                            have n0_ := Aside0.mk (Kd.R_drewN HO_3.out nq)
                            have n1_ := Aside0.mk (pw_below_drewN HB.out nq)
                            clear HO_3
                            clear HB
                            have HO_3 := n0_
                            have HB := n1_
                            clear n0_ n1_
                            generalize wr.drewN nq = w19 at HO_3 HB ⊢
                            try go_wp2
                            go_meet
                            case rel => exact ⟨_, (true), (by first | rfl | (simp; done) | (simp [*]; done)), H', ⟨by have := HK1.out; first | omega | exact Nat.le_refl _⟩, ⟨by (with_reducible repeat (first | apply Kd.R_alloc | apply Kd.R_drewN | apply Kd.R_drew)); exact HO_3.out⟩, ⟨by repeat (first | (with_reducible first | exact HB.out | apply below_alloc | apply pw_below_drewN | apply below_drew1) | exact HB.out)⟩⟩
                        · rw [if_neg c18] at H
                          have c18b0 : decide (((rd_T43 t142 x5_1).f1) < 0) = false := decide_eq_false c18
                          clear c18
                          obtain ⟨ji20, hji20⟩ : ∃ j_ : Int, (mx ((rd_T43 t142 x5_1).f0) 0) = j_ := ⟨_, rfl⟩
                          replace H : (portagelaw3_HuffApart.j1 k1 l0 t142 x5_1 (decide (((rd_T43 t142 x5_1).f1) ≥ (wrap64 (2 ^ (mn (ji20) 15).toNat))))) = some r := by first | (rw [hji20] at H; exact H) | (simp only [hji20] at H ⊢; exact H)
                          have hji20_ : (if ((rd_T43 t142 x5_1).f0) < 0 then 0 else ((rd_T43 t142 x5_1).f0)) = ji20 := hji20
                          obtain ⟨ji21, hji21⟩ : ∃ j_ : Int, (mn (ji20) 15) = j_ := ⟨_, rfl⟩
                          replace H : (portagelaw3_HuffApart.j1 k1 l0 t142 x5_1 (decide (((rd_T43 t142 x5_1).f1) ≥ (wrap64 (2 ^ (ji21).toNat))))) = some r := by first | (rw [hji21] at H; exact H) | (simp only [hji21] at H ⊢; exact H)
                          have hji21_ : (if 15 < (ji20) then 15 else (ji20)) = ji21 := hji21
                          have H' := Aside0.mk H
                          clear H
                          try go_wp2
                          have p147 : 0 ≤ (x5_1 : Int) := of_decide_eq_true (by first | (with_reducible assumption) | assumption)
                          have q147 : x5_1 < (t142.length : Int) := of_decide_eq_true (by first | (with_reducible assumption) | assumption)
                          obtain ⟨ad147, e147, hx147_0, hx147_1⟩ := at_T43 (Kd.R_reads' HO_3.out).2.2 x5_1 p147 q147
                          cases e147
                          replace p147 := eq_true p147
                          replace q147 := eq_true q147
                          have p148 : 0 ≤ (x5_1 : Int) := of_decide_eq_true (by first | (with_reducible assumption) | assumption)
                          have q148 : x5_1 < (l0.length : Int) := of_decide_eq_true (by first | (with_reducible assumption) | assumption)
                          obtain ⟨ad148, e148, hx148_0⟩ := Kd.at_int HR0.out x5_1 p148 q148
                          have hw148_0 := hx148_0
                          cases e148
                          replace hx148_0 := (HB.out.cell (World.block_lt_of_cell? w _ hx148_0)).trans hx148_0
                          replace p148 := eq_true p148
                          replace q148 := eq_true q148
                          have p149 : 0 ≤ (x5_1 : Int) := of_decide_eq_true (by first | (with_reducible assumption) | assumption)
                          have q149 : x5_1 < (t142.length : Int) := of_decide_eq_true (by first | (with_reducible assumption) | assumption)
                          obtain ⟨ad149, e149, hx149_0, hx149_1⟩ := at_T43 (Kd.R_reads' HO_3.out).2.2 x5_1 p149 q149
                          obtain rfl : ad147 = ad149 := (by injection e149)
                          replace p149 := eq_true p149
                          replace q149 := eq_true q149
                          have p150 : 0 ≤ (x5_1 : Int) := of_decide_eq_true (by first | (with_reducible assumption) | assumption)
                          have q150 : x5_1 < (t142.length : Int) := of_decide_eq_true (by first | (with_reducible assumption) | assumption)
                          obtain ⟨ad150, e150, hx150_0, hx150_1⟩ := at_T43 (Kd.R_reads' HO_3.out).2.2 x5_1 p150 q150
                          obtain rfl : ad147 = ad150 := (by injection e150)
                          replace p150 := eq_true p150
                          replace q150 := eq_true q150
                          have p151 : 0 ≤ (x5_1 : Int) := of_decide_eq_true (by first | (with_reducible assumption) | assumption)
                          have q151 : x5_1 < (t142.length : Int) := of_decide_eq_true (by first | (with_reducible assumption) | assumption)
                          obtain ⟨ad151, e151, hx151_0, hx151_1⟩ := at_T43 (Kd.R_reads' HO_3.out).2.2 x5_1 p151 q151
                          obtain rfl : ad147 = ad151 := (by injection e151)
                          replace p151 := eq_true p151
                          replace q151 := eq_true q151
                          as_aux_lemma =>
                            go_quiet ((fail))
                            have n0_ := Aside0.mk (Kd.R_drewN HO_3.out nq)
                            have n1_ := Aside0.mk (pw_below_drewN HB.out nq)
                            clear HO_3
                            clear HB
                            have HO_3 := n0_
                            have HB := n1_
                            clear n0_ n1_
                            generalize wr.drewN nq = w22 at HO_3 HB ⊢
                            try go_wp2
                            go_meet
                            case rel => exact ⟨_, (decide (((rd_T43 t142 x5_1).f1) ≥ (wrap64 (2 ^ (ji21).toNat)))), (by first | rfl | (simp; done) | (simp only [← hji21] <;> (first | rfl | simp)) | (simp [*]; done)), H', ⟨by have := HK1.out; first | omega | exact Nat.le_refl _⟩, ⟨by (with_reducible repeat (first | apply Kd.R_alloc | apply Kd.R_drewN | apply Kd.R_drew)); exact HO_3.out⟩, ⟨by repeat (first | (with_reducible first | exact HB.out | apply below_alloc | apply pw_below_drewN | apply below_drew1) | exact HB.out)⟩⟩
                      · rw [if_neg c17] at H
                        have c17b0 : (((rd_T43 t142 x5_1).f0) == (rd l0 x5_1)) = false := beq_eq_false_iff_ne.mpr c17
                        have c17b1 : (((rd_T43 t142 x5_1).f0) != (rd l0 x5_1)) = true := bne_iff_ne.mpr c17
                        have H' := Aside0.mk H
                        clear H
                        try go_wp2
                        have p147 : 0 ≤ (x5_1 : Int) := of_decide_eq_true (by first | (with_reducible assumption) | assumption)
                        have q147 : x5_1 < (t142.length : Int) := of_decide_eq_true (by first | (with_reducible assumption) | assumption)
                        obtain ⟨ad147, e147, hx147_0, hx147_1⟩ := at_T43 (Kd.R_reads' HO_3.out).2.2 x5_1 p147 q147
                        cases e147
                        replace p147 := eq_true p147
                        replace q147 := eq_true q147
                        have p148 : 0 ≤ (x5_1 : Int) := of_decide_eq_true (by first | (with_reducible assumption) | assumption)
                        have q148 : x5_1 < (l0.length : Int) := of_decide_eq_true (by first | (with_reducible assumption) | assumption)
                        obtain ⟨ad148, e148, hx148_0⟩ := Kd.at_int HR0.out x5_1 p148 q148
                        have hw148_0 := hx148_0
                        cases e148
                        replace hx148_0 := (HB.out.cell (World.block_lt_of_cell? w _ hx148_0)).trans hx148_0
                        replace p148 := eq_true p148
                        replace q148 := eq_true q148
                        as_aux_lemma =>
                          go_quiet ((fail))
                          have n0_ := Aside0.mk (Kd.R_drewN HO_3.out nq)
                          have n1_ := Aside0.mk (pw_below_drewN HB.out nq)
                          clear HO_3
                          clear HB
                          have HO_3 := n0_
                          have HB := n1_
                          clear n0_ n1_
                          generalize wr.drewN nq = w23 at HO_3 HB ⊢
                          try go_wp2
                          go_meet
                          case rel => exact ⟨_, (true), (by first | rfl | (simp; done) | (simp [*]; done)), H', ⟨by have := HK1.out; first | omega | exact Nat.le_refl _⟩, ⟨by (with_reducible repeat (first | apply Kd.R_alloc | apply Kd.R_drewN | apply Kd.R_drew)); exact HO_3.out⟩, ⟨by repeat (first | (with_reducible first | exact HB.out | apply below_alloc | apply pw_below_drewN | apply below_drew1) | exact HB.out)⟩⟩
                    · rw [if_neg c16] at H
                      exact absurd H (by simp)
                  · rw [if_neg c15] at H
                    exact absurd H (by simp)
                case rest =>
                  clear HC14
                  try clear c1
                  try clear p1
                  try clear q1
                  try clear hx1
                  try clear p2
                  try clear p6
                  try clear p14
                  try clear q14
                  try clear hx14
                  try clear c15
                  try clear p15
                  try clear q15
                  try clear hx15
                  try clear c16
                  try clear c17
                  try clear c17b0
                  try clear c17b1
                  try clear c18
                  try clear c18b0
                  try clear hx147_0
                  try clear hx147_1
                  try clear hx148_0
                  try clear hx149_0
                  try clear hx149_1
                  try clear hx150_0
                  try clear hx150_1
                  try clear hx151_0
                  try clear hx151_1
                  try clear p147
                  try clear p148
                  try clear p149
                  try clear p150
                  try clear p151
                  try clear q147
                  try clear q148
                  try clear q149
                  try clear q150
                  try clear q151
                  obtain ⟨kq, x71_13, rfl, HA, HJ13, HO_3, HB⟩ := hcut
                  cases kq with
                  | zero => exact absurd HA.out (by simp [portagelaw3_HuffApart.j1])
                  | succ kj13 =>
                    have H := HA.out
                    clear HA
                    simp only [portagelaw3_HuffApart.j1] at H
                    by_cases c24 : x71_13 = true
                    · subst c24
                      have H1 : (none) = some r := by rw [if_pos rfl] at H; exact H
                      clear H
                      have H := H1
                      clear H1
                      exact absurd H (by simp)
                    · replace c24 := Bool.eq_false_iff.mpr c24
                      subst c24
                      have H1 : (if 0 ≤ x5_1 then (if x5_1 < (t142.length : Int) then (if ((rd_T43 t142 x5_1).f0) = 0 then (portagelaw3_HuffApart.l0 kj13 l0 t142 (wrap64 (x5_1 + 1))) else ((huff_Find.f l0 ((rd_T43 t142 x5_1).f0) ((rd_T43 t142 x5_1).f1)).bind fun bt155 => (if bt155.1 = x5_1 then (if bt155.2.1 = true then ((portagelaw0_Num.f bt155.2.2).bind fun t158 => (portagelaw3_HuffApart.j2 kj13 l0 t142 x5_1 (t158 != 0))) else (portagelaw3_HuffApart.j2 kj13 l0 t142 x5_1 true)) else (portagelaw3_HuffApart.j2 kj13 l0 t142 x5_1 true)))) else (none)) else (none)) = some r := by rw [if_neg (show ¬ (false = true) by decide)] at H; exact H
                      clear H
                      have H := H1
                      clear H1
                      by_cases c25 : 0 ≤ x5_1
                      · rw [if_pos c25] at H
                        have c25b0 : decide (0 ≤ x5_1) = true := decide_eq_true c25
                        clear c25
                        by_cases c26 : x5_1 < (t142.length : Int)
                        · rw [if_pos c26] at H
                          have c26b0 : decide (x5_1 < (t142.length : Int)) = true := decide_eq_true c26
                          clear c26
                          by_cases c27 : ((rd_T43 t142 x5_1).f0) = 0
                          · rw [if_pos c27] at H
                            have c27b0 : (((rd_T43 t142 x5_1).f0) == 0) = true := beq_iff_eq.mpr c27
                            have c27b1 : (((rd_T43 t142 x5_1).f0) != 0) = false := bne_eq_false_iff_eq.mpr c27
                            clear c27
                            have H' := Aside0.mk H
                            clear H
                            have p152 : 0 ≤ (x5_1 : Int) := of_decide_eq_true (by first | (with_reducible assumption) | assumption)
                            have q152 : x5_1 < (t142.length : Int) := of_decide_eq_true (by first | (with_reducible assumption) | assumption)
                            obtain ⟨ad152, e152, hx152_0, hx152_1⟩ := at_T43 (Kd.R_reads' HO_3.out).2.2 x5_1 p152 q152
                            cases e152
                            replace p152 := eq_true p152
                            replace q152 := eq_true q152
                            go_wp2
                            go_roundg kj13
                            case measure => have := HK1.out; have := HJ13.out; omega
                            case rel => exact ⟨(wrap64 (x5_1 + 1)), (by first | rfl | (simp; done) | (simp [*]; done)), H', ⟨by have := HK1.out; have := HJ13.out; omega⟩, ⟨by (with_reducible repeat (first | apply Kd.R_alloc | apply Kd.R_drewN | apply Kd.R_drew)); exact HO_3.out⟩, ⟨by repeat (first | (with_reducible first | exact HB.out | apply below_alloc | apply pw_below_drewN | apply below_drew1) | exact HB.out)⟩⟩
                          · rw [if_neg c27] at H
                            have c27b0 : (((rd_T43 t142 x5_1).f0) == 0) = false := beq_eq_false_iff_ne.mpr c27
                            have c27b1 : (((rd_T43 t142 x5_1).f0) != 0) = true := bne_iff_ne.mpr c27
                            replace H := Option.bind_eq_some_iff.mp H
                            obtain ⟨⟨t155, t156, t157⟩, A280, H⟩ := H
                            replace H : (if t155 = x5_1 then (if t156 = true then ((portagelaw0_Num.f t157).bind fun t158 => (portagelaw3_HuffApart.j2 kj13 l0 t142 x5_1 (t158 != 0))) else (portagelaw3_HuffApart.j2 kj13 l0 t142 x5_1 true)) else (portagelaw3_HuffApart.j2 kj13 l0 t142 x5_1 true)) = some r := H
                            have A28 := Aside0.mk A280
                            clear A280
                            have HC29 := Aside0.mk H
                            clear H
                            have p152 : 0 ≤ (x5_1 : Int) := of_decide_eq_true (by first | (with_reducible assumption) | assumption)
                            have q152 : x5_1 < (t142.length : Int) := of_decide_eq_true (by first | (with_reducible assumption) | assumption)
                            obtain ⟨ad152, e152, hx152_0, hx152_1⟩ := at_T43 (Kd.R_reads' HO_3.out).2.2 x5_1 p152 q152
                            cases e152
                            replace p152 := eq_true p152
                            replace q152 := eq_true q152
                            try go_wp2
                            have n0_ := Aside0.mk (Kd.R_drew HO_3.out)
                            have n1_ := Aside0.mk (below_drew1 HB.out)
                            clear HO_3
                            clear HB
                            have HO_3 := n0_
                            have HB := n1_
                            clear n0_ n1_
                            have p153 : 0 ≤ (x5_1 : Int) := of_decide_eq_true (by first | (with_reducible assumption) | assumption)
                            have q153 : x5_1 < (t142.length : Int) := of_decide_eq_true (by first | (with_reducible assumption) | assumption)
                            obtain ⟨ad153, e153, hx153_0, hx153_1⟩ := at_T43 (Kd.R_reads' HO_3.out).2.2 x5_1 p153 q153
                            obtain rfl : ad152 = ad153 := (by injection e153)
                            replace p153 := eq_true p153
                            replace q153 := eq_true q153
                            have p154 : 0 ≤ (x5_1 : Int) := of_decide_eq_true (by first | (with_reducible assumption) | assumption)
                            have q154 : x5_1 < (t142.length : Int) := of_decide_eq_true (by first | (with_reducible assumption) | assumption)
                            obtain ⟨ad154, e154, hx154_0, hx154_1⟩ := at_T43 (Kd.R_reads' HO_3.out).2.2 x5_1 p154 q154
                            obtain rfl : ad152 = ad154 := (by injection e154)
                            replace p154 := eq_true p154
                            replace q154 := eq_true q154
                            refine start_ (n := 19) (S := fun w' => w'.cell? (ad152.add ((x5_1).toNat * 2)) = some (.int .i64 ((rd_T43 t142 x5_1).f0)) ∧ w'.cell? ⟨(ad152.add ((x5_1).toNat * 2)).block, (ad152.add ((x5_1).toNat * 2)).off + 1, none⟩ = some (.int .i64 ((rd_T43 t142 x5_1).f1)) ∧ w'.cell? (ad152.add ((x5_1).toNat * 2)) = some (.int .i64 ((rd_T43 t142 x5_1).f0)) ∧ w'.cell? ⟨(ad152.add ((x5_1).toNat * 2)).block, (ad152.add ((x5_1).toNat * 2)).off + 1, none⟩ = some (.int .i64 ((rd_T43 t142 x5_1).f1))) (ds := []) #[false, false, false, false, false, false, false, false, false, false, false, false, false, false, false, false, false, false, false] (by kernel_rfl) rfl rfl ⟨hx153_0, hx153_1, hx154_0, hx154_1⟩ (fun hHeld => ?_); refine with_tabW portagelaw3_HuffApart.tab16 portagelaw3_HuffApart.bits16 (fun HT_ HW_ => ?_)
                            generalize wc.drew = w30 at HO_3 HB hx153_0 hx153_1 hx154_0 hx154_1 hHeld ⊢
                            refine pure_ (i := 0) (N := some 79) (v := ?_) (a' := ?_) #[true, false, false, false, false, false, false, false, false, false, false, false, false, false, false, false, false, false, false] rfl rfl (any_of HT_.out (by kernel_rfl)) (fun _ _ _ h => h) (Or.inl ⟨by rfl, ?_⟩) ?_ ?_
                            rotate_left
                            · intro w'
                              go_simp
                              with_reducible rfl
                            rotate_left
                            · simp only [Act.put, List.setIfInBounds_toArray, List.set_cons_zero, List.set_cons_succ, i64_w, i32_w, IntKind.wrap_u8, IntKind.wrap_u32]
                              rfl
                            refine pure_ (i := 1) (N := some 80) (v := ?_) (a' := ?_) #[true, true, false, false, false, false, false, false, false, false, false, false, false, false, false, false, false, false, false] rfl rfl (any_of HT_.out (by kernel_rfl)) (fun _ _ _ h => h) (Or.inl ⟨by rfl, ?_⟩) ?_ ?_
                            rotate_left
                            · intro w'
                              go_simp
                              with_reducible rfl
                            rotate_left
                            · simp only [Act.put, List.setIfInBounds_toArray, List.set_cons_zero, List.set_cons_succ, i64_w, i32_w, IntKind.wrap_u8, IntKind.wrap_u32]
                              rfl
                            refine pure_ (i := 2) (N := some 81) (v := ?_) (a' := ?_) #[true, true, true, false, false, false, false, false, false, false, false, false, false, false, false, false, false, false, false] rfl rfl (any_of HT_.out (by kernel_rfl)) (fun _ _ _ h => h) (Or.inl ⟨by rfl, ?_⟩) ?_ ?_
                            rotate_left
                            · intro w'
                              go_simp
                              with_reducible rfl
                            rotate_left
                            · simp only [Act.put, List.setIfInBounds_toArray, List.set_cons_zero, List.set_cons_succ, i64_w, i32_w, IntKind.wrap_u8, IntKind.wrap_u32]
                              rfl
                            refine pure_ (i := 3) (N := some 82) (v := ?_) (a' := ?_) #[true, true, true, true, false, false, false, false, false, false, false, false, false, false, false, false, false, false, false] rfl rfl (any_of HT_.out (by kernel_rfl)) (fun _ _ _ h => h) (Or.inl ⟨by rfl, ?_⟩) ?_ ?_
                            rotate_left
                            · intro w'
                              go_simp
                              with_reducible rfl
                            rotate_left
                            · simp only [Act.put, List.setIfInBounds_toArray, List.set_cons_zero, List.set_cons_succ, i64_w, i32_w, IntKind.wrap_u8, IntKind.wrap_u32]
                              rfl
                            refine pure_ (i := 4) (N := some 83) (v := ?_) (a' := ?_) #[true, true, true, true, true, false, false, false, false, false, false, false, false, false, false, false, false, false, false] rfl rfl (any_of HT_.out (by kernel_rfl)) (fun _ _ _ h => h) (Or.inl ⟨by rfl, ?_⟩) ?_ ?_
                            rotate_left
                            · intro w'
                              go_simp
                              with_reducible rfl
                            rotate_left
                            · simp only [Act.put, List.setIfInBounds_toArray, List.set_cons_zero, List.set_cons_succ, i64_w, i32_w, IntKind.wrap_u8, IntKind.wrap_u32]
                              rfl
                            refine pure_ (i := 6) (N := some 85) (v := ?_) (a' := ?_) #[true, true, true, true, true, false, true, false, false, false, false, false, false, false, false, false, false, false, false] rfl rfl (any_of HT_.out (by kernel_rfl)) (fun _ _ _ h => h) (Or.inl ⟨by rfl, ?_⟩) ?_ ?_
                            rotate_left
                            · intro w'
                              go_simp
                              with_reducible rfl
                            rotate_left
                            · simp only [Act.put, List.setIfInBounds_toArray, List.set_cons_zero, List.set_cons_succ, i64_w, i32_w, IntKind.wrap_u8, IntKind.wrap_u32]
                              rfl
                            refine pure_ (i := 7) (N := some 86) (v := ?_) (a' := ?_) #[true, true, true, true, true, false, true, true, false, false, false, false, false, false, false, false, false, false, false] rfl rfl (any_of HT_.out (by kernel_rfl)) (fun _ _ _ h => h) (Or.inl ⟨by rfl, ?_⟩) ?_ ?_
                            rotate_left
                            · intro w'
                              go_simp
                              with_reducible rfl
                            rotate_left
                            · simp only [Act.put, List.setIfInBounds_toArray, List.set_cons_zero, List.set_cons_succ, i64_w, i32_w, IntKind.wrap_u8, IntKind.wrap_u32]
                              rfl
                            refine pure_ (i := 8) (N := some 87) (v := ?_) (a' := ?_) #[true, true, true, true, true, false, true, true, true, false, false, false, false, false, false, false, false, false, false] rfl rfl (any_of HT_.out (by kernel_rfl)) (fun _ _ _ h => h) (Or.inl ⟨by rfl, ?_⟩) ?_ ?_
                            rotate_left
                            · intro w'
                              go_simp
                              with_reducible rfl
                            rotate_left
                            · simp only [Act.put, List.setIfInBounds_toArray, List.set_cons_zero, List.set_cons_succ, i64_w, i32_w, IntKind.wrap_u8, IntKind.wrap_u32]
                              rfl
                            refine pure_ (i := 9) (N := some 88) (v := ?_) (a' := ?_) #[true, true, true, true, true, false, true, true, true, true, false, false, false, false, false, false, false, false, false] rfl rfl (any_of HT_.out (by kernel_rfl)) (fun _ _ _ h => h) (Or.inl ⟨by rfl, ?_⟩) ?_ ?_
                            rotate_left
                            · intro w'
                              go_simp
                              with_reducible rfl
                            rotate_left
                            · simp only [Act.put, List.setIfInBounds_toArray, List.set_cons_zero, List.set_cons_succ, i64_w, i32_w, IntKind.wrap_u8, IntKind.wrap_u32]
                              rfl
                            refine take_ (i := 5) (N := some 84) (v := ?_) (a' := ?_) #[true, true, true, true, true, true, true, true, true, true, false, false, false, false, false, false, false, false, false] rfl rfl (take_ofW HT_.out HW_.out (by kernel_rfl)) (fun _ _ _ h => h) (Or.inl ⟨by rfl, ?_⟩) hHeld ?_ ?_
                            rotate_left
                            · rintro w' ⟨s0, s1, s2, s3⟩
                              go_simp
                              with_reducible rfl
                            rotate_left
                            · simp only [Act.put, List.setIfInBounds_toArray, List.set_cons_zero, List.set_cons_succ, i64_w, i32_w, IntKind.wrap_u8, IntKind.wrap_u32]
                              rfl
                            refine take_ (i := 10) (N := some 89) (v := ?_) (a' := ?_) #[true, true, true, true, true, true, true, true, true, true, true, false, false, false, false, false, false, false, false] rfl rfl (take_ofW HT_.out HW_.out (by kernel_rfl)) (fun _ _ _ h => h) (Or.inl ⟨by rfl, ?_⟩) hHeld ?_ ?_
                            rotate_left
                            · rintro w' ⟨s0, s1, s2, s3⟩
                              go_simp
                              with_reducible rfl
                            rotate_left
                            · simp only [Act.put, List.setIfInBounds_toArray, List.set_cons_zero, List.set_cons_succ, i64_w, i32_w, IntKind.wrap_u8, IntKind.wrap_u32]
                              rfl
                            refine one_ (i := 11) (N := some 90) #[true, true, true, true, true, true, true, true, true, true, true, true, false, false, false, false, false, false, false] rfl rfl (one_of HT_.out (by kernel_rfl)) (by decide) (fun K hK => ?_)
                            refine goes_ Try.func26 (by kernel_rfl) rfl #[.slice A0 l0.length c0, .int .i64 ((rd_T43 t142 x5_1).f0), .int .i64 ((rd_T43 t142 x5_1).f1)] (by rfl) rfl rfl (by (try simp only [List.map_toArray, List.map_cons, List.map_nil]); first | done | rfl | (simp only [List.length_drop, List.length_take]; rfl)) ?_
                            with_reducible refine (huff_Find.calls _ _ l0 ((rd_T43 t142 x5_1).f0) ((rd_T43 t142 x5_1).f1) t155 t156 t157 _ ?side1 ?side2 A28.out).mono ?_
                            (case side1 => repeat (first | exact (Kd.C_below HR0.out HB.out) | (with_reducible refine Kd.C_alloc ?_ _) | (with_reducible refine Kd.C_drewN ?_ _) | (with_reducible refine Kd.C_drew ?_)))
                            (case side2 => exact HC0.out)
                            rintro e w31 ⟨rfl, hb⟩
                            have HS0_ := (hb.cell (World.block_lt_of_cell? _ _ (hHeld.1))).trans (hHeld.1)
                            have HS1_ := (hb.cell (World.block_lt_of_cell? _ _ (hHeld.2.1))).trans (hHeld.2.1)
                            have HS2_ := (hb.cell (World.block_lt_of_cell? _ _ (hHeld.2.2.1))).trans (hHeld.2.2.1)
                            have HS3_ := (hb.cell (World.block_lt_of_cell? _ _ (hHeld.2.2.2))).trans (hHeld.2.2.2)
                            refine ⟨_, rfl, ?_⟩
                            have n0_ := Aside0.mk (Kd.R_below (by (with_reducible repeat (first | apply Kd.R_alloc | apply Kd.R_drewN | apply Kd.R_drew)); exact HO_3.out) hb)
                            have n1_ := Aside0.mk (below_step (by repeat (first | (with_reducible first | exact HB.out | apply below_alloc | apply pw_below_drewN | apply below_drew1) | exact HB.out)) hb)
                            clear HO_3
                            clear HB
                            have HO_3 := n0_
                            have HB := n1_
                            clear n0_ n1_
                            (try clear hb)
                            (try clear hb2)
                            (try clear hk)
                            (try clear hi)
                            refine hK.out _ _ ⟨HS0_, HS1_, HS2_, HS3_⟩ (fun hHeld => ?_)
                            clear hK K
                            refine norm_ (a' := ?_) ?_ ?_
                            rotate_left
                            · show Act.put _ (some 90) _ = _
                              simp only [Act.put, List.setIfInBounds_toArray, List.set_cons_zero, List.set_cons_succ, i64_w, i32_w, IntKind.wrap_u8, IntKind.wrap_u32]
                              rfl
                            refine pure_ (i := 12) (N := some 78) (v := ?_) (a' := ?_) #[true, true, true, true, true, true, true, true, true, true, true, true, true, false, false, false, false, false, false] rfl rfl (any_of HT_.out (by kernel_rfl)) (fun _ _ _ h => h) (Or.inl ⟨by rfl, ?_⟩) ?_ ?_
                            rotate_left
                            · intro w'
                              go_simp
                              with_reducible rfl
                            rotate_left
                            · simp only [Act.put, List.setIfInBounds_toArray, List.set_cons_zero, List.set_cons_succ, i64_w, i32_w, IntKind.wrap_u8, IntKind.wrap_u32]
                              rfl
                            refine pure_ (i := 13) (N := some 91) (v := ?_) (a' := ?_) #[true, true, true, true, true, true, true, true, true, true, true, true, true, true, false, false, false, false, false] rfl rfl (any_of HT_.out (by kernel_rfl)) (fun _ _ _ h => h) (Or.inl ⟨by rfl, ?_⟩) ?_ ?_
                            rotate_left
                            · intro w'
                              go_simp
                              with_reducible rfl
                            rotate_left
                            · simp only [Act.put, List.setIfInBounds_toArray, List.set_cons_zero, List.set_cons_succ, i64_w, i32_w, IntKind.wrap_u8, IntKind.wrap_u32]
                              rfl
                            refine pure_ (i := 14) (N := some 92) (v := ?_) (a' := ?_) #[true, true, true, true, true, true, true, true, true, true, true, true, true, true, true, false, false, false, false] rfl rfl (any_of HT_.out (by kernel_rfl)) (fun _ _ _ h => h) (Or.inl ⟨by rfl, ?_⟩) ?_ ?_
                            rotate_left
                            · intro w'
                              go_simp
                              with_reducible rfl
                            rotate_left
                            · simp only [Act.put, List.setIfInBounds_toArray, List.set_cons_zero, List.set_cons_succ, i64_w, i32_w, IntKind.wrap_u8, IntKind.wrap_u32]
                              rfl
                            refine pure_ (i := 15) (N := some 93) (v := ?_) (a' := ?_) #[true, true, true, true, true, true, true, true, true, true, true, true, true, true, true, true, false, false, false] rfl rfl (any_of HT_.out (by kernel_rfl)) (fun _ _ _ h => h) (Or.inl ⟨by rfl, ?_⟩) ?_ ?_
                            rotate_left
                            · intro w'
                              go_simp
                              with_reducible rfl
                            rotate_left
                            · simp only [Act.put, List.setIfInBounds_toArray, List.set_cons_zero, List.set_cons_succ, i64_w, i32_w, IntKind.wrap_u8, IntKind.wrap_u32]
                              rfl
                            refine pure_ (i := 16) (N := some 6) (v := ?_) (a' := ?_) #[true, true, true, true, true, true, true, true, true, true, true, true, true, true, true, true, true, false, false] rfl rfl (any_of HT_.out (by kernel_rfl)) (fun _ _ _ h => h) (Or.inl ⟨by rfl, ?_⟩) ?_ ?_
                            rotate_left
                            · intro w'
                              go_simp
                              with_reducible rfl
                            rotate_left
                            · simp only [Act.put, List.setIfInBounds_toArray, List.set_cons_zero, List.set_cons_succ, i64_w, i32_w, IntKind.wrap_u8, IntKind.wrap_u32]
                              rfl
                            refine pure_ (i := 17) (N := some 7) (v := ?_) (a' := ?_) #[true, true, true, true, true, true, true, true, true, true, true, true, true, true, true, true, true, true, false] rfl rfl (any_of HT_.out (by kernel_rfl)) (fun _ _ _ h => h) (Or.inl ⟨by rfl, ?_⟩) ?_ ?_
                            rotate_left
                            · intro w'
                              go_simp
                              with_reducible rfl
                            rotate_left
                            · simp only [Act.put, List.setIfInBounds_toArray, List.set_cons_zero, List.set_cons_succ, i64_w, i32_w, IntKind.wrap_u8, IntKind.wrap_u32]
                              rfl
                            refine pure_ (i := 18) (N := some 8) (v := ?_) (a' := ?_) #[true, true, true, true, true, true, true, true, true, true, true, true, true, true, true, true, true, true, true] rfl rfl (any_of HT_.out (by kernel_rfl)) (fun _ _ _ h => h) (Or.inl ⟨by rfl, ?_⟩) ?_ ?_
                            rotate_left
                            · intro w'
                              go_simp
                              with_reducible rfl
                            rotate_left
                            · simp only [Act.put, List.setIfInBounds_toArray, List.set_cons_zero, List.set_cons_succ, i64_w, i32_w, IntKind.wrap_u8, IntKind.wrap_u32]
                              rfl
                            refine done_ (done_of HT_.out (by kernel_rfl)) ?_
                            go_upto_region 17 with (fail)
                            go_cut [105] (fun v105 wc => ∃ (kq : Nat) (x105_28 : Bool), v105 = .bool x105_28 ∧ Aside0 (portagelaw3_HuffApart.j2 kq l0 t142 x5_1 x105_28 = some r) ∧ Aside0 (kq ≤ kj13) ∧ Aside0 (Kd.R k43 43 wc w.heap.size (fun _ => True) (.slice (some ad152) t142.length co12) t142) ∧ Aside0 (Below w.heap.size w wc))
                            case first =>
                              have H := HC29.out
                              clear HC29
                              by_cases c32 : t155 = x5_1
                              · rw [if_pos c32] at H
                                have c32b0 : (t155 == x5_1) = true := beq_iff_eq.mpr c32
                                have c32b1 : (t155 != x5_1) = false := bne_eq_false_iff_eq.mpr c32
                                clear c32
                                (first | rw [c32b0] | (simp only [i64_w, i32_w]; rw [c32b0]) | skip)
                                by_cases c33 : t156 = true
                                · subst c33
                                  have H1 : ((portagelaw0_Num.f t157).bind fun t158 => (portagelaw3_HuffApart.j2 kj13 l0 t142 x5_1 (t158 != 0))) = some r := by rw [if_pos rfl] at H; exact H
                                  clear H
                                  have H := H1
                                  clear H1
                                  replace H := Option.bind_eq_some_iff.mp H
                                  obtain ⟨t158, A340, H⟩ := H
                                  replace H : (portagelaw3_HuffApart.j2 kj13 l0 t142 x5_1 (t158 != 0)) = some r := H
                                  have A34 := Aside0.mk A340
                                  clear A340
                                  have H' := Aside0.mk H
                                  clear H
                                  go_wp2_with (first | (go_at_call 29; (with_reducible refine (portagelaw0_Num.calls t157 t158 _ A34.out).mono ?_); rintro e w' ⟨rfl, ⟨nd, rfl⟩⟩))
                                  go_meet
                                  case rel => exact ⟨_, ((t158 != 0)), (by first | rfl | (simp; done) | (simp [*]; done)), H', ⟨by have := HK1.out; have := HJ13.out; first | omega | exact Nat.le_refl _⟩, ⟨by (with_reducible repeat (first | apply Kd.R_alloc | apply Kd.R_drewN | apply Kd.R_drew)); exact HO_3.out⟩, ⟨by repeat (first | (with_reducible first | exact HB.out | apply below_alloc | apply pw_below_drewN | apply below_drew1) | exact HB.out)⟩⟩
                                · replace c33 := Bool.eq_false_iff.mpr c33
                                  subst c33
                                  have H1 : (portagelaw3_HuffApart.j2 kj13 l0 t142 x5_1 true) = some r := by rw [if_neg (show ¬ (false = true) by decide)] at H; exact H
                                  clear H
                                  have H := H1
                                  clear H1
                                  have H' := Aside0.mk H
                                  clear H
                                  go_wp2
                                  go_meet
                                  case rel => exact ⟨_, (true), (by first | rfl | (simp; done) | (simp [*]; done)), H', ⟨by have := HK1.out; have := HJ13.out; first | omega | exact Nat.le_refl _⟩, ⟨by (with_reducible repeat (first | apply Kd.R_alloc | apply Kd.R_drewN | apply Kd.R_drew)); exact HO_3.out⟩, ⟨by repeat (first | (with_reducible first | exact HB.out | apply below_alloc | apply pw_below_drewN | apply below_drew1) | exact HB.out)⟩⟩
                              · rw [if_neg c32] at H
                                have c32b0 : (t155 == x5_1) = false := beq_eq_false_iff_ne.mpr c32
                                have c32b1 : (t155 != x5_1) = true := bne_iff_ne.mpr c32
                                (first | rw [c32b0] | (simp only [i64_w, i32_w]; rw [c32b0]) | skip)
                                have H' := Aside0.mk H
                                clear H
                                go_wp2
                                go_meet
                                case rel => exact ⟨_, (true), (by first | rfl | (simp; done) | (simp [*]; done)), H', ⟨by have := HK1.out; have := HJ13.out; first | omega | exact Nat.le_refl _⟩, ⟨by (with_reducible repeat (first | apply Kd.R_alloc | apply Kd.R_drewN | apply Kd.R_drew)); exact HO_3.out⟩, ⟨by repeat (first | (with_reducible first | exact HB.out | apply below_alloc | apply pw_below_drewN | apply below_drew1) | exact HB.out)⟩⟩
                            case rest =>
                              clear HC29
                              try clear c1
                              try clear p1
                              try clear q1
                              try clear hx1
                              try clear c2
                              try clear p2
                              try clear c3
                              try clear p6
                              try clear p14
                              try clear q14
                              try clear hx14
                              try clear c15
                              try clear p15
                              try clear q15
                              try clear hx15
                              try clear c16
                              try clear c17
                              try clear c17b0
                              try clear c17b1
                              try clear c18
                              try clear c18b0
                              try clear c24
                              try clear c25
                              try clear c25b0
                              try clear c26
                              try clear c26b0
                              try clear c27
                              try clear c27b0
                              try clear c27b1
                              try clear c32
                              try clear c32b0
                              try clear c32b1
                              try clear c33
                              try clear hx147_0
                              try clear hx147_1
                              try clear hx148_0
                              try clear hx149_0
                              try clear hx149_1
                              try clear hx150_0
                              try clear hx150_1
                              try clear hx151_0
                              try clear hx151_1
                              try clear hx152_0
                              try clear hx152_1
                              try clear hx153_0
                              try clear hx153_1
                              try clear hx154_0
                              try clear hx154_1
                              try clear p1
                              try clear p14
                              try clear p147
                              try clear p148
                              try clear p149
                              try clear p15
                              try clear p150
                              try clear p151
                              try clear p152
                              try clear p153
                              try clear p154
                              try clear p2
                              try clear p6
                              try clear q1
                              try clear q14
                              try clear q147
                              try clear q148
                              try clear q149
                              try clear q15
                              try clear q150
                              try clear q151
                              try clear q152
                              try clear q153
                              try clear q154
                              obtain ⟨kq, x105_28, rfl, HA, HJ28, HO_3, HB⟩ := hcut
                              cases kq with
                              | zero => exact absurd HA.out (by simp [portagelaw3_HuffApart.j2])
                              | succ kj28 =>
                                have H := HA.out
                                clear HA
                                simp only [portagelaw3_HuffApart.j2] at H
                                by_cases c35 : x105_28 = true
                                · subst c35
                                  have H1 : (none) = some r := by rw [if_pos rfl] at H; exact H
                                  clear H
                                  have H := H1
                                  clear H1
                                  exact absurd H (by simp)
                                · replace c35 := Bool.eq_false_iff.mpr c35
                                  subst c35
                                  have H1 : (portagelaw3_HuffApart.l1 kj28 l0 t142 x5_1 0) = some r := by rw [if_neg (show ¬ (false = true) by decide)] at H; exact H
                                  clear H
                                  have H := H1
                                  clear H1
                                  have H' := Aside0.mk H
                                  clear H
                                  go_wp2
                                  go_loopg [9] kj28 (fun kq v9 w' => ∃ (x9_4 : Int), v9 = .int .i64 x9_4 ∧ Aside0 (portagelaw3_HuffApart.l1 kq l0 t142 x5_1 x9_4 = some r) ∧ Aside0 (kq ≤ kj28) ∧ Aside0 (Kd.R k43 43 w' w.heap.size (fun _ => True) (.slice (some ad152) t142.length co12) t142) ∧ Aside0 (Below w.heap.size w w'))
                                  case atStart => exact ⟨(0), (by first | rfl | (simp; done) | (simp [*]; done)), H', ⟨Nat.le_refl _⟩, ⟨by (with_reducible repeat (first | apply Kd.R_alloc | apply Kd.R_drewN | apply Kd.R_drew)); exact HO_3.out⟩, ⟨by repeat (first | (with_reducible first | exact HB.out | apply below_alloc | apply pw_below_drewN | apply below_drew1) | exact HB.out)⟩⟩
                                  case round =>
                                    clear H'
                                    try clear c1
                                    try clear p1
                                    try clear q1
                                    try clear hx1
                                    try clear c2
                                    try clear p2
                                    try clear c3
                                    try clear p6
                                    try clear p14
                                    try clear q14
                                    try clear hx14
                                    try clear c15
                                    try clear p15
                                    try clear q15
                                    try clear hx15
                                    try clear c16
                                    try clear c17
                                    try clear c17b0
                                    try clear c17b1
                                    try clear c18
                                    try clear c18b0
                                    try clear c24
                                    try clear c25
                                    try clear c25b0
                                    try clear c26
                                    try clear c26b0
                                    try clear c27
                                    try clear c27b0
                                    try clear c27b1
                                    try clear c32
                                    try clear c32b0
                                    try clear c32b1
                                    try clear c33
                                    try clear c35
                                    try clear hx147_0
                                    try clear hx147_1
                                    try clear hx148_0
                                    try clear hx149_0
                                    try clear hx149_1
                                    try clear hx150_0
                                    try clear hx150_1
                                    try clear hx151_0
                                    try clear hx151_1
                                    try clear hx152_0
                                    try clear hx152_1
                                    try clear hx153_0
                                    try clear hx153_1
                                    try clear hx154_0
                                    try clear hx154_1
                                    try clear p1
                                    try clear p14
                                    try clear p147
                                    try clear p148
                                    try clear p149
                                    try clear p15
                                    try clear p150
                                    try clear p151
                                    try clear p152
                                    try clear p153
                                    try clear p154
                                    try clear p2
                                    try clear p6
                                    try clear q1
                                    try clear q14
                                    try clear q147
                                    try clear q148
                                    try clear q149
                                    try clear q15
                                    try clear q150
                                    try clear q151
                                    try clear q152
                                    try clear q153
                                    try clear q154
                                    obtain ⟨x9_4, rfl, HA, HK4, HO_3, HB⟩ := hrel
                                    cases gk with
                                    | zero => exact absurd HA.out (by simp [portagelaw3_HuffApart.l1])
                                    | succ k4 =>
                                      have H := HA.out
                                      clear HA
                                      simp only [portagelaw3_HuffApart.l1] at H
                                      by_cases c36 : x9_4 < (t142.length : Int)
                                      · rw [if_pos c36] at H
                                        have c36b0 : decide (x9_4 < (t142.length : Int)) = true := decide_eq_true c36
                                        clear c36
                                        by_cases c37 : 0 ≤ x9_4
                                        · rw [if_pos c37] at H
                                          have c37b0 : decide (0 ≤ x9_4) = true := decide_eq_true c37
                                          clear c37
                                          by_cases c38 : 0 ≤ x5_1
                                          · rw [if_pos c38] at H
                                            have c38b0 : decide (0 ≤ x5_1) = true := decide_eq_true c38
                                            clear c38
                                            by_cases c39 : x5_1 < (t142.length : Int)
                                            · rw [if_pos c39] at H
                                              have c39b0 : decide (x5_1 < (t142.length : Int)) = true := decide_eq_true c39
                                              clear c39
                                              have HC40 := Aside0.mk H
                                              clear H
                                              try go_wp2
                                              have p159 : 0 ≤ (x9_4 : Int) := of_decide_eq_true (by first | (with_reducible assumption) | assumption)
                                              have q159 : x9_4 < (t142.length : Int) := of_decide_eq_true (by first | (with_reducible assumption) | assumption)
                                              obtain ⟨ad159, e159, hx159_0, hx159_1⟩ := at_T43 (Kd.R_reads' HO_3.out).2.2 x9_4 p159 q159
                                              obtain rfl : ad152 = ad159 := (by injection e159)
                                              replace p159 := eq_true p159
                                              replace q159 := eq_true q159
                                              have p160 : 0 ≤ (x5_1 : Int) := of_decide_eq_true (by first | (with_reducible assumption) | assumption)
                                              have q160 : x5_1 < (t142.length : Int) := of_decide_eq_true (by first | (with_reducible assumption) | assumption)
                                              obtain ⟨ad160, e160, hx160_0, hx160_1⟩ := at_T43 (Kd.R_reads' HO_3.out).2.2 x5_1 p160 q160
                                              obtain rfl : ad152 = ad160 := (by injection e160)
                                              replace p160 := eq_true p160
                                              replace q160 := eq_true q160
                                              go_quiet ((fail))
                                              have n0_ := Aside0.mk (Kd.R_drewN HO_3.out nq)
                                              have n1_ := Aside0.mk (pw_below_drewN HB.out nq)
                                              clear HO_3
                                              clear HB
                                              have HO_3 := n0_
                                              have HB := n1_
                                              clear n0_ n1_
                                              generalize wr.drewN nq = w41 at HO_3 HB ⊢
                                              go_upto_region 23 with (fail)
                                              go_cut [170] (fun v170 wc => ∃ (kq : Nat) (x170_39 : Bool), v170 = .bool x170_39 ∧ Aside0 (portagelaw3_HuffApart.j4 kq l0 t142 x5_1 x9_4 x170_39 = some r) ∧ Aside0 (kq ≤ k4) ∧ Aside0 (Kd.R k43 43 wc w.heap.size (fun _ => True) (.slice (some ad152) t142.length co12) t142) ∧ Aside0 (Below w.heap.size w wc))
                                              case first =>
                                                have H := HC40.out
                                                clear HC40
                                                by_cases c42 : x9_4 = x5_1
                                                · rw [if_pos c42] at H
                                                  have c42b0 : (x9_4 == x5_1) = true := beq_iff_eq.mpr c42
                                                  have c42b1 : (x9_4 != x5_1) = false := bne_eq_false_iff_eq.mpr c42
                                                  clear c42
                                                  (first | rw [c42b0] | (simp only [i64_w, i32_w]; rw [c42b0]) | skip)
                                                  by_cases c43 : x9_4 < x5_1
                                                  · rw [if_pos c43] at H
                                                    have c43b0 : decide (x9_4 < x5_1) = true := decide_eq_true c43
                                                    clear c43
                                                    by_cases c44 : (wrap64 (((rd_T43 t142 x9_4).f0) - ((rd_T43 t142 x5_1).f0))) = 0
                                                    · rw [if_pos c44] at H
                                                      have c44b0 : ((wrap64 (((rd_T43 t142 x9_4).f0) - ((rd_T43 t142 x5_1).f0))) == 0) = true := beq_iff_eq.mpr c44
                                                      have c44b1 : ((wrap64 (((rd_T43 t142 x9_4).f0) - ((rd_T43 t142 x5_1).f0))) != 0) = false := bne_eq_false_iff_eq.mpr c44
                                                      clear c44
                                                      have H' := Aside0.mk H
                                                      clear H
                                                      try go_wp2
                                                      have p161 : 0 ≤ (x9_4 : Int) := of_decide_eq_true (by first | (with_reducible assumption) | assumption)
                                                      have q161 : x9_4 < (t142.length : Int) := of_decide_eq_true (by first | (with_reducible assumption) | assumption)
                                                      obtain ⟨ad161, e161, hx161_0, hx161_1⟩ := at_T43 (Kd.R_reads' HO_3.out).2.2 x9_4 p161 q161
                                                      obtain rfl : ad152 = ad161 := (by injection e161)
                                                      replace p161 := eq_true p161
                                                      replace q161 := eq_true q161
                                                      have p162 : 0 ≤ (x5_1 : Int) := of_decide_eq_true (by first | (with_reducible assumption) | assumption)
                                                      have q162 : x5_1 < (t142.length : Int) := of_decide_eq_true (by first | (with_reducible assumption) | assumption)
                                                      obtain ⟨ad162, e162, hx162_0, hx162_1⟩ := at_T43 (Kd.R_reads' HO_3.out).2.2 x5_1 p162 q162
                                                      obtain rfl : ad152 = ad162 := (by injection e162)
                                                      replace p162 := eq_true p162
                                                      replace q162 := eq_true q162
                                                      as_aux_lemma =>
                                                        go_quiet ((fail))
                                                        have n0_ := Aside0.mk (Kd.R_drewN HO_3.out nq)
                                                        have n1_ := Aside0.mk (pw_below_drewN HB.out nq)
                                                        clear HO_3
                                                        clear HB
                                                        have HO_3 := n0_
                                                        have HB := n1_
                                                        clear n0_ n1_
                                                        generalize w41.drewN nq = w45 at HO_3 HB ⊢
                                                        try go_wp2
                                                        go_meet
                                                        case rel => exact ⟨_, (decide (((rd_T43 t142 x9_4).f1) ≥ ((rd_T43 t142 x5_1).f1))), (by first | rfl | (simp; done) | (simp [*]; done)), H', ⟨by have := HK1.out; have := HJ13.out; have := HJ28.out; have := HK4.out; first | omega | exact Nat.le_refl _⟩, ⟨by (with_reducible repeat (first | apply Kd.R_alloc | apply Kd.R_drewN | apply Kd.R_drew)); exact HO_3.out⟩, ⟨by repeat (first | (with_reducible first | exact HB.out | apply below_alloc | apply pw_below_drewN | apply below_drew1) | exact HB.out)⟩⟩
                                                    · rw [if_neg c44] at H
                                                      have c44b0 : ((wrap64 (((rd_T43 t142 x9_4).f0) - ((rd_T43 t142 x5_1).f0))) == 0) = false := beq_eq_false_iff_ne.mpr c44
                                                      have c44b1 : ((wrap64 (((rd_T43 t142 x9_4).f0) - ((rd_T43 t142 x5_1).f0))) != 0) = true := bne_iff_ne.mpr c44
                                                      have H' := Aside0.mk H
                                                      clear H
                                                      try go_wp2
                                                      as_aux_lemma =>
                                                        go_quiet ((fail))
                                                        have n0_ := Aside0.mk (Kd.R_drewN HO_3.out nq)
                                                        have n1_ := Aside0.mk (pw_below_drewN HB.out nq)
                                                        clear HO_3
                                                        clear HB
                                                        have HO_3 := n0_
                                                        have HB := n1_
                                                        clear n0_ n1_
                                                        generalize w41.drewN nq = w46 at HO_3 HB ⊢
                                                        try go_wp2
                                                        go_meet
                                                        case rel => exact ⟨_, (false), (by first | rfl | (simp; done) | (simp [*]; done)), H', ⟨by have := HK1.out; have := HJ13.out; have := HJ28.out; have := HK4.out; first | omega | exact Nat.le_refl _⟩, ⟨by (with_reducible repeat (first | apply Kd.R_alloc | apply Kd.R_drewN | apply Kd.R_drew)); exact HO_3.out⟩, ⟨by repeat (first | (with_reducible first | exact HB.out | apply below_alloc | apply pw_below_drewN | apply below_drew1) | exact HB.out)⟩⟩
                                                  · rw [if_neg c43] at H
                                                    have c43b0 : decide (x9_4 < x5_1) = false := decide_eq_false c43
                                                    clear c43
                                                    have H' := Aside0.mk H
                                                    clear H
                                                    try go_wp2
                                                    as_aux_lemma =>
                                                      go_quiet ((fail))
                                                      have n0_ := Aside0.mk (Kd.R_drewN HO_3.out nq)
                                                      have n1_ := Aside0.mk (pw_below_drewN HB.out nq)
                                                      clear HO_3
                                                      clear HB
                                                      have HO_3 := n0_
                                                      have HB := n1_
                                                      clear n0_ n1_
                                                      generalize w41.drewN nq = w47 at HO_3 HB ⊢
                                                      try go_wp2
                                                      go_meet
                                                      case rel => exact ⟨_, (false), (by first | rfl | (simp; done) | (simp [*]; done)), H', ⟨by have := HK1.out; have := HJ13.out; have := HJ28.out; have := HK4.out; first | omega | exact Nat.le_refl _⟩, ⟨by (with_reducible repeat (first | apply Kd.R_alloc | apply Kd.R_drewN | apply Kd.R_drew)); exact HO_3.out⟩, ⟨by repeat (first | (with_reducible first | exact HB.out | apply below_alloc | apply pw_below_drewN | apply below_drew1) | exact HB.out)⟩⟩
                                                · rw [if_neg c42] at H
                                                  have c42b0 : (x9_4 == x5_1) = false := beq_eq_false_iff_ne.mpr c42
                                                  have c42b1 : (x9_4 != x5_1) = true := bne_iff_ne.mpr c42
                                                  (first | rw [c42b0] | (simp only [i64_w, i32_w]; rw [c42b0]) | skip)
                                                  by_cases c48 : (wrap64 (((rd_T43 t142 x9_4).f0) - ((rd_T43 t142 x5_1).f0))) ≥ 0
                                                  · rw [if_pos c48] at H
                                                    have c48b0 : decide (0 ≤ (wrap64 (((rd_T43 t142 x9_4).f0) - ((rd_T43 t142 x5_1).f0)))) = true := decide_eq_true c48
                                                    clear c48
                                                    by_cases c49 : (wrap64 (((rd_T43 t142 x9_4).f0) - ((rd_T43 t142 x5_1).f0))) ≤ 15
                                                    · rw [if_pos c49] at H
                                                      have c49b0 : decide ((wrap64 (((rd_T43 t142 x9_4).f0) - ((rd_T43 t142 x5_1).f0))) ≤ 15) = true := decide_eq_true c49
                                                      clear c49
                                                      obtain ⟨ji50, hji50⟩ : ∃ j_ : Int, (wrap64 (((rd_T43 t142 x9_4).f0) - ((rd_T43 t142 x5_1).f0))) = j_ := ⟨_, rfl⟩
                                                      replace H : (if 0 ≤ (ji50) then (if (shr .i64 ((rd_T43 t142 x9_4).f1) (ji50)) = ((rd_T43 t142 x5_1).f1) then (portagelaw3_HuffApart.j4 k4 l0 t142 x5_1 x9_4 true) else (if x9_4 < x5_1 then (if (ji50) = 0 then (portagelaw3_HuffApart.j4 k4 l0 t142 x5_1 x9_4 (decide (((rd_T43 t142 x9_4).f1) ≥ ((rd_T43 t142 x5_1).f1)))) else (portagelaw3_HuffApart.j4 k4 l0 t142 x5_1 x9_4 false)) else (portagelaw3_HuffApart.j4 k4 l0 t142 x5_1 x9_4 false))) else (none)) = some r := by first | (rw [hji50] at H; exact H) | (simp only [hji50] at H ⊢; exact H)
                                                      (try rw [hji50] at c48b0)
                                                      (try rw [hji50] at c49b0)
                                                      have hji50w : (IntKind.i64.wrap (((rd_T43 t142 x9_4).f0) - ((rd_T43 t142 x5_1).f0))) = ji50 := (i64_w _).trans hji50
                                                      by_cases c51 : 0 ≤ (ji50)
                                                      · rw [if_pos c51] at H
                                                        have c51b0 := eq_true c51
                                                        have c51b1 : decide (0 ≤ (ji50)) = true := decide_eq_true c51
                                                        clear c51
                                                        obtain ⟨ji52, hji52⟩ : ∃ j_ : Int, (shr .i64 ((rd_T43 t142 x9_4).f1) (ji50)) = j_ := ⟨_, rfl⟩
                                                        replace H : (if (ji52) = ((rd_T43 t142 x5_1).f1) then (portagelaw3_HuffApart.j4 k4 l0 t142 x5_1 x9_4 true) else (if x9_4 < x5_1 then (if (ji50) = 0 then (portagelaw3_HuffApart.j4 k4 l0 t142 x5_1 x9_4 (decide (((rd_T43 t142 x9_4).f1) ≥ ((rd_T43 t142 x5_1).f1)))) else (portagelaw3_HuffApart.j4 k4 l0 t142 x5_1 x9_4 false)) else (portagelaw3_HuffApart.j4 k4 l0 t142 x5_1 x9_4 false))) = some r := by first | (rw [hji52] at H; exact H) | (simp only [hji52] at H ⊢; exact H)
                                                        have hji52_ : (((rd_T43 t142 x9_4).f1) / 2 ^ min (ji50).toNat 64) = ji52 := hji52
                                                        have hji52z : (ji50) ≤ 64 → (((rd_T43 t142 x9_4).f1) / 2 ^ (ji50).toNat) = ji52 := shr_small hji52
                                                        (try (have hji52B : (ji50) ≤ 64 := by first | omega | (rw [← hji50]; exact Int.le_trans (Int.le_of_lt (Int.tmod_lt_of_pos _ (by decide))) (by decide))))
                                                        (try (have hji52C := hji52z hji52B))
                                                        by_cases c53 : (ji52) = ((rd_T43 t142 x5_1).f1)
                                                        · rw [if_pos c53] at H
                                                          have c53b0 : ((ji52) == ((rd_T43 t142 x5_1).f1)) = true := beq_iff_eq.mpr c53
                                                          have c53b1 : ((ji52) != ((rd_T43 t142 x5_1).f1)) = false := bne_eq_false_iff_eq.mpr c53
                                                          clear c53
                                                          have H' := Aside0.mk H
                                                          clear H
                                                          try go_wp2
                                                          have p163 : 0 ≤ (x9_4 : Int) := of_decide_eq_true (by first | (with_reducible assumption) | assumption)
                                                          have q163 : x9_4 < (t142.length : Int) := of_decide_eq_true (by first | (with_reducible assumption) | assumption)
                                                          obtain ⟨ad163, e163, hx163_0, hx163_1⟩ := at_T43 (Kd.R_reads' HO_3.out).2.2 x9_4 p163 q163
                                                          obtain rfl : ad152 = ad163 := (by injection e163)
                                                          replace p163 := eq_true p163
                                                          replace q163 := eq_true q163
                                                          have p164 : 0 ≤ (x5_1 : Int) := of_decide_eq_true (by first | (with_reducible assumption) | assumption)
                                                          have q164 : x5_1 < (t142.length : Int) := of_decide_eq_true (by first | (with_reducible assumption) | assumption)
                                                          obtain ⟨ad164, e164, hx164_0, hx164_1⟩ := at_T43 (Kd.R_reads' HO_3.out).2.2 x5_1 p164 q164
                                                          obtain rfl : ad152 = ad164 := (by injection e164)
                                                          replace p164 := eq_true p164
                                                          replace q164 := eq_true q164
                                                          (try (have hji52Q := hji52z (by first | omega | (simp only [decide_eq_true_eq] at *; omega))))
                                                          as_aux_lemma =>
                                                            go_quiet ((fail))
                                                            (try subst hji50)
                                                            have n0_ := Aside0.mk (Kd.R_drewN HO_3.out nq)
                                                            have n1_ := Aside0.mk (pw_below_drewN HB.out nq)
                                                            clear HO_3
                                                            clear HB
                                                            have HO_3 := n0_
                                                            have HB := n1_
                                                            clear n0_ n1_
                                                            generalize w41.drewN nq = w54 at HO_3 HB ⊢
                                                            try go_wp2
                                                            go_meet
                                                            case rel => exact ⟨_, (true), (by first | rfl | (simp; done) | (simp [*]; done)), H', ⟨by have := HK1.out; have := HJ13.out; have := HJ28.out; have := HK4.out; first | omega | exact Nat.le_refl _⟩, ⟨by (with_reducible repeat (first | apply Kd.R_alloc | apply Kd.R_drewN | apply Kd.R_drew)); exact HO_3.out⟩, ⟨by repeat (first | (with_reducible first | exact HB.out | apply below_alloc | apply pw_below_drewN | apply below_drew1) | exact HB.out)⟩⟩
                                                        · rw [if_neg c53] at H
                                                          have c53b0 : ((ji52) == ((rd_T43 t142 x5_1).f1)) = false := beq_eq_false_iff_ne.mpr c53
                                                          have c53b1 : ((ji52) != ((rd_T43 t142 x5_1).f1)) = true := bne_iff_ne.mpr c53
                                                          by_cases c55 : x9_4 < x5_1
                                                          · rw [if_pos c55] at H
                                                            have c55b0 : decide (x9_4 < x5_1) = true := decide_eq_true c55
                                                            clear c55
                                                            by_cases c56 : (ji50) = 0
                                                            · rw [if_pos c56] at H
                                                              have c56b0 : ((ji50) == 0) = true := beq_iff_eq.mpr c56
                                                              have c56b1 : ((ji50) != 0) = false := bne_eq_false_iff_eq.mpr c56
                                                              clear c56
                                                              have H' := Aside0.mk H
                                                              clear H
                                                              try go_wp2
                                                              have p163 : 0 ≤ (x9_4 : Int) := of_decide_eq_true (by first | (with_reducible assumption) | assumption)
                                                              have q163 : x9_4 < (t142.length : Int) := of_decide_eq_true (by first | (with_reducible assumption) | assumption)
                                                              obtain ⟨ad163, e163, hx163_0, hx163_1⟩ := at_T43 (Kd.R_reads' HO_3.out).2.2 x9_4 p163 q163
                                                              obtain rfl : ad152 = ad163 := (by injection e163)
                                                              replace p163 := eq_true p163
                                                              replace q163 := eq_true q163
                                                              have p164 : 0 ≤ (x5_1 : Int) := of_decide_eq_true (by first | (with_reducible assumption) | assumption)
                                                              have q164 : x5_1 < (t142.length : Int) := of_decide_eq_true (by first | (with_reducible assumption) | assumption)
                                                              obtain ⟨ad164, e164, hx164_0, hx164_1⟩ := at_T43 (Kd.R_reads' HO_3.out).2.2 x5_1 p164 q164
                                                              obtain rfl : ad152 = ad164 := (by injection e164)
                                                              replace p164 := eq_true p164
                                                              replace q164 := eq_true q164
                                                              have p165 : 0 ≤ (x9_4 : Int) := of_decide_eq_true (by first | (with_reducible assumption) | assumption)
                                                              have q165 : x9_4 < (t142.length : Int) := of_decide_eq_true (by first | (with_reducible assumption) | assumption)
                                                              obtain ⟨ad165, e165, hx165_0, hx165_1⟩ := at_T43 (Kd.R_reads' HO_3.out).2.2 x9_4 p165 q165
                                                              obtain rfl : ad152 = ad165 := (by injection e165)
                                                              replace p165 := eq_true p165
                                                              replace q165 := eq_true q165
                                                              have p166 : 0 ≤ (x5_1 : Int) := of_decide_eq_true (by first | (with_reducible assumption) | assumption)
                                                              have q166 : x5_1 < (t142.length : Int) := of_decide_eq_true (by first | (with_reducible assumption) | assumption)
                                                              obtain ⟨ad166, e166, hx166_0, hx166_1⟩ := at_T43 (Kd.R_reads' HO_3.out).2.2 x5_1 p166 q166
                                                              obtain rfl : ad152 = ad166 := (by injection e166)
                                                              replace p166 := eq_true p166
                                                              replace q166 := eq_true q166
                                                              (try (have hji52Q := hji52z (by first | omega | (simp only [decide_eq_true_eq] at *; omega))))
                                                              as_aux_lemma =>
                                                                go_quiet ((fail))
                                                                (try subst hji50)
                                                                have n0_ := Aside0.mk (Kd.R_drewN HO_3.out nq)
                                                                have n1_ := Aside0.mk (pw_below_drewN HB.out nq)
                                                                clear HO_3
                                                                clear HB
                                                                have HO_3 := n0_
                                                                have HB := n1_
                                                                clear n0_ n1_
                                                                generalize w41.drewN nq = w57 at HO_3 HB ⊢
                                                                try go_wp2
                                                                go_meet
                                                                case rel => exact ⟨_, (decide (((rd_T43 t142 x9_4).f1) ≥ ((rd_T43 t142 x5_1).f1))), (by first | rfl | (simp; done) | (simp [*]; done)), H', ⟨by have := HK1.out; have := HJ13.out; have := HJ28.out; have := HK4.out; first | omega | exact Nat.le_refl _⟩, ⟨by (with_reducible repeat (first | apply Kd.R_alloc | apply Kd.R_drewN | apply Kd.R_drew)); exact HO_3.out⟩, ⟨by repeat (first | (with_reducible first | exact HB.out | apply below_alloc | apply pw_below_drewN | apply below_drew1) | exact HB.out)⟩⟩
                                                            · rw [if_neg c56] at H
                                                              have c56b0 : ((ji50) == 0) = false := beq_eq_false_iff_ne.mpr c56
                                                              have c56b1 : ((ji50) != 0) = true := bne_iff_ne.mpr c56
                                                              have H' := Aside0.mk H
                                                              clear H
                                                              try go_wp2
                                                              have p163 : 0 ≤ (x9_4 : Int) := of_decide_eq_true (by first | (with_reducible assumption) | assumption)
                                                              have q163 : x9_4 < (t142.length : Int) := of_decide_eq_true (by first | (with_reducible assumption) | assumption)
                                                              obtain ⟨ad163, e163, hx163_0, hx163_1⟩ := at_T43 (Kd.R_reads' HO_3.out).2.2 x9_4 p163 q163
                                                              obtain rfl : ad152 = ad163 := (by injection e163)
                                                              replace p163 := eq_true p163
                                                              replace q163 := eq_true q163
                                                              have p164 : 0 ≤ (x5_1 : Int) := of_decide_eq_true (by first | (with_reducible assumption) | assumption)
                                                              have q164 : x5_1 < (t142.length : Int) := of_decide_eq_true (by first | (with_reducible assumption) | assumption)
                                                              obtain ⟨ad164, e164, hx164_0, hx164_1⟩ := at_T43 (Kd.R_reads' HO_3.out).2.2 x5_1 p164 q164
                                                              obtain rfl : ad152 = ad164 := (by injection e164)
                                                              replace p164 := eq_true p164
                                                              replace q164 := eq_true q164
                                                              (try (have hji52Q := hji52z (by first | omega | (simp only [decide_eq_true_eq] at *; omega))))
                                                              as_aux_lemma =>
                                                                go_quiet ((fail))
                                                                (try subst hji50)
                                                                have n0_ := Aside0.mk (Kd.R_drewN HO_3.out nq)
                                                                have n1_ := Aside0.mk (pw_below_drewN HB.out nq)
                                                                clear HO_3
                                                                clear HB
                                                                have HO_3 := n0_
                                                                have HB := n1_
                                                                clear n0_ n1_
                                                                generalize w41.drewN nq = w58 at HO_3 HB ⊢
                                                                try go_wp2
                                                                go_meet
                                                                case rel => exact ⟨_, (false), (by first | rfl | (simp; done) | (simp [*]; done)), H', ⟨by have := HK1.out; have := HJ13.out; have := HJ28.out; have := HK4.out; first | omega | exact Nat.le_refl _⟩, ⟨by (with_reducible repeat (first | apply Kd.R_alloc | apply Kd.R_drewN | apply Kd.R_drew)); exact HO_3.out⟩, ⟨by repeat (first | (with_reducible first | exact HB.out | apply below_alloc | apply pw_below_drewN | apply below_drew1) | exact HB.out)⟩⟩
                                                          · rw [if_neg c55] at H
                                                            have c55b0 : decide (x9_4 < x5_1) = false := decide_eq_false c55
                                                            clear c55
                                                            have H' := Aside0.mk H
                                                            clear H
                                                            try go_wp2
                                                            have p163 : 0 ≤ (x9_4 : Int) := of_decide_eq_true (by first | (with_reducible assumption) | assumption)
                                                            have q163 : x9_4 < (t142.length : Int) := of_decide_eq_true (by first | (with_reducible assumption) | assumption)
                                                            obtain ⟨ad163, e163, hx163_0, hx163_1⟩ := at_T43 (Kd.R_reads' HO_3.out).2.2 x9_4 p163 q163
                                                            obtain rfl : ad152 = ad163 := (by injection e163)
                                                            replace p163 := eq_true p163
                                                            replace q163 := eq_true q163
                                                            have p164 : 0 ≤ (x5_1 : Int) := of_decide_eq_true (by first | (with_reducible assumption) | assumption)
                                                            have q164 : x5_1 < (t142.length : Int) := of_decide_eq_true (by first | (with_reducible assumption) | assumption)
                                                            obtain ⟨ad164, e164, hx164_0, hx164_1⟩ := at_T43 (Kd.R_reads' HO_3.out).2.2 x5_1 p164 q164
                                                            obtain rfl : ad152 = ad164 := (by injection e164)
                                                            replace p164 := eq_true p164
                                                            replace q164 := eq_true q164
                                                            (try (have hji52Q := hji52z (by first | omega | (simp only [decide_eq_true_eq] at *; omega))))
                                                            as_aux_lemma =>
                                                              go_quiet ((fail))
                                                              (try subst hji50)
                                                              have n0_ := Aside0.mk (Kd.R_drewN HO_3.out nq)
                                                              have n1_ := Aside0.mk (pw_below_drewN HB.out nq)
                                                              clear HO_3
                                                              clear HB
                                                              have HO_3 := n0_
                                                              have HB := n1_
                                                              clear n0_ n1_
                                                              generalize w41.drewN nq = w59 at HO_3 HB ⊢
                                                              try go_wp2
                                                              go_meet
                                                              case rel => exact ⟨_, (false), (by first | rfl | (simp; done) | (simp [*]; done)), H', ⟨by have := HK1.out; have := HJ13.out; have := HJ28.out; have := HK4.out; first | omega | exact Nat.le_refl _⟩, ⟨by (with_reducible repeat (first | apply Kd.R_alloc | apply Kd.R_drewN | apply Kd.R_drew)); exact HO_3.out⟩, ⟨by repeat (first | (with_reducible first | exact HB.out | apply below_alloc | apply pw_below_drewN | apply below_drew1) | exact HB.out)⟩⟩
                                                      · rw [if_neg c51] at H
                                                        exact absurd H (by simp)
                                                    · rw [if_neg c49] at H
                                                      have c49b0 : decide ((wrap64 (((rd_T43 t142 x9_4).f0) - ((rd_T43 t142 x5_1).f0))) ≤ 15) = false := decide_eq_false c49
                                                      clear c49
                                                      by_cases c60 : x9_4 < x5_1
                                                      · rw [if_pos c60] at H
                                                        have c60b0 : decide (x9_4 < x5_1) = true := decide_eq_true c60
                                                        clear c60
                                                        by_cases c61 : (wrap64 (((rd_T43 t142 x9_4).f0) - ((rd_T43 t142 x5_1).f0))) = 0
                                                        · rw [if_pos c61] at H
                                                          have c61b0 : ((wrap64 (((rd_T43 t142 x9_4).f0) - ((rd_T43 t142 x5_1).f0))) == 0) = true := beq_iff_eq.mpr c61
                                                          have c61b1 : ((wrap64 (((rd_T43 t142 x9_4).f0) - ((rd_T43 t142 x5_1).f0))) != 0) = false := bne_eq_false_iff_eq.mpr c61
                                                          clear c61
                                                          have H' := Aside0.mk H
                                                          clear H
                                                          try go_wp2
                                                          have p167 : 0 ≤ (x9_4 : Int) := of_decide_eq_true (by first | (with_reducible assumption) | assumption)
                                                          have q167 : x9_4 < (t142.length : Int) := of_decide_eq_true (by first | (with_reducible assumption) | assumption)
                                                          obtain ⟨ad167, e167, hx167_0, hx167_1⟩ := at_T43 (Kd.R_reads' HO_3.out).2.2 x9_4 p167 q167
                                                          obtain rfl : ad152 = ad167 := (by injection e167)
                                                          replace p167 := eq_true p167
                                                          replace q167 := eq_true q167
                                                          have p168 : 0 ≤ (x5_1 : Int) := of_decide_eq_true (by first | (with_reducible assumption) | assumption)
                                                          have q168 : x5_1 < (t142.length : Int) := of_decide_eq_true (by first | (with_reducible assumption) | assumption)
                                                          obtain ⟨ad168, e168, hx168_0, hx168_1⟩ := at_T43 (Kd.R_reads' HO_3.out).2.2 x5_1 p168 q168
                                                          obtain rfl : ad152 = ad168 := (by injection e168)
                                                          replace p168 := eq_true p168
                                                          replace q168 := eq_true q168
                                                          as_aux_lemma =>
                                                            go_quiet ((fail))
                                                            have n0_ := Aside0.mk (Kd.R_drewN HO_3.out nq)
                                                            have n1_ := Aside0.mk (pw_below_drewN HB.out nq)
                                                            clear HO_3
                                                            clear HB
                                                            have HO_3 := n0_
                                                            have HB := n1_
                                                            clear n0_ n1_
                                                            generalize w41.drewN nq = w62 at HO_3 HB ⊢
                                                            try go_wp2
                                                            go_meet
                                                            case rel => exact ⟨_, (decide (((rd_T43 t142 x9_4).f1) ≥ ((rd_T43 t142 x5_1).f1))), (by first | rfl | (simp; done) | (simp [*]; done)), H', ⟨by have := HK1.out; have := HJ13.out; have := HJ28.out; have := HK4.out; first | omega | exact Nat.le_refl _⟩, ⟨by (with_reducible repeat (first | apply Kd.R_alloc | apply Kd.R_drewN | apply Kd.R_drew)); exact HO_3.out⟩, ⟨by repeat (first | (with_reducible first | exact HB.out | apply below_alloc | apply pw_below_drewN | apply below_drew1) | exact HB.out)⟩⟩
                                                        · rw [if_neg c61] at H
                                                          have c61b0 : ((wrap64 (((rd_T43 t142 x9_4).f0) - ((rd_T43 t142 x5_1).f0))) == 0) = false := beq_eq_false_iff_ne.mpr c61
                                                          have c61b1 : ((wrap64 (((rd_T43 t142 x9_4).f0) - ((rd_T43 t142 x5_1).f0))) != 0) = true := bne_iff_ne.mpr c61
                                                          have H' := Aside0.mk H
                                                          clear H
                                                          try go_wp2
                                                          as_aux_lemma =>
                                                            go_quiet ((fail))
                                                            have n0_ := Aside0.mk (Kd.R_drewN HO_3.out nq)
                                                            have n1_ := Aside0.mk (pw_below_drewN HB.out nq)
                                                            clear HO_3
                                                            clear HB
                                                            have HO_3 := n0_
                                                            have HB := n1_
                                                            clear n0_ n1_
                                                            generalize w41.drewN nq = w63 at HO_3 HB ⊢
                                                            try go_wp2
                                                            go_meet
                                                            case rel => exact ⟨_, (false), (by first | rfl | (simp; done) | (simp [*]; done)), H', ⟨by have := HK1.out; have := HJ13.out; have := HJ28.out; have := HK4.out; first | omega | exact Nat.le_refl _⟩, ⟨by (with_reducible repeat (first | apply Kd.R_alloc | apply Kd.R_drewN | apply Kd.R_drew)); exact HO_3.out⟩, ⟨by repeat (first | (with_reducible first | exact HB.out | apply below_alloc | apply pw_below_drewN | apply below_drew1) | exact HB.out)⟩⟩
                                                      · rw [if_neg c60] at H
                                                        have c60b0 : decide (x9_4 < x5_1) = false := decide_eq_false c60
                                                        clear c60
                                                        have H' := Aside0.mk H
                                                        clear H
                                                        try go_wp2
                                                        as_aux_lemma =>
                                                          go_quiet ((fail))
                                                          have n0_ := Aside0.mk (Kd.R_drewN HO_3.out nq)
                                                          have n1_ := Aside0.mk (pw_below_drewN HB.out nq)
                                                          clear HO_3
                                                          clear HB
                                                          have HO_3 := n0_
                                                          have HB := n1_
                                                          clear n0_ n1_
                                                          generalize w41.drewN nq = w64 at HO_3 HB ⊢
                                                          try go_wp2
                                                          go_meet
                                                          case rel => exact ⟨_, (false), (by first | rfl | (simp; done) | (simp [*]; done)), H', ⟨by have := HK1.out; have := HJ13.out; have := HJ28.out; have := HK4.out; first | omega | exact Nat.le_refl _⟩, ⟨by (with_reducible repeat (first | apply Kd.R_alloc | apply Kd.R_drewN | apply Kd.R_drew)); exact HO_3.out⟩, ⟨by repeat (first | (with_reducible first | exact HB.out | apply below_alloc | apply pw_below_drewN | apply below_drew1) | exact HB.out)⟩⟩
                                                  · rw [if_neg c48] at H
                                                    have c48b0 : decide (0 ≤ (wrap64 (((rd_T43 t142 x9_4).f0) - ((rd_T43 t142 x5_1).f0)))) = false := decide_eq_false c48
                                                    clear c48
                                                    by_cases c65 : x9_4 < x5_1
                                                    · rw [if_pos c65] at H
                                                      have c65b0 : decide (x9_4 < x5_1) = true := decide_eq_true c65
                                                      clear c65
                                                      by_cases c66 : (wrap64 (((rd_T43 t142 x9_4).f0) - ((rd_T43 t142 x5_1).f0))) = 0
                                                      · rw [if_pos c66] at H
                                                        have c66b0 : ((wrap64 (((rd_T43 t142 x9_4).f0) - ((rd_T43 t142 x5_1).f0))) == 0) = true := beq_iff_eq.mpr c66
                                                        have c66b1 : ((wrap64 (((rd_T43 t142 x9_4).f0) - ((rd_T43 t142 x5_1).f0))) != 0) = false := bne_eq_false_iff_eq.mpr c66
                                                        clear c66
                                                        have H' := Aside0.mk H
                                                        clear H
                                                        try go_wp2
                                                        have p169 : 0 ≤ (x9_4 : Int) := of_decide_eq_true (by first | (with_reducible assumption) | assumption)
                                                        have q169 : x9_4 < (t142.length : Int) := of_decide_eq_true (by first | (with_reducible assumption) | assumption)
                                                        obtain ⟨ad169, e169, hx169_0, hx169_1⟩ := at_T43 (Kd.R_reads' HO_3.out).2.2 x9_4 p169 q169
                                                        obtain rfl : ad152 = ad169 := (by injection e169)
                                                        replace p169 := eq_true p169
                                                        replace q169 := eq_true q169
                                                        have p170 : 0 ≤ (x5_1 : Int) := of_decide_eq_true (by first | (with_reducible assumption) | assumption)
                                                        have q170 : x5_1 < (t142.length : Int) := of_decide_eq_true (by first | (with_reducible assumption) | assumption)
                                                        obtain ⟨ad170, e170, hx170_0, hx170_1⟩ := at_T43 (Kd.R_reads' HO_3.out).2.2 x5_1 p170 q170
                                                        obtain rfl : ad152 = ad170 := (by injection e170)
                                                        replace p170 := eq_true p170
                                                        replace q170 := eq_true q170
                                                        as_aux_lemma =>
                                                          go_quiet ((fail))
                                                          have n0_ := Aside0.mk (Kd.R_drewN HO_3.out nq)
                                                          have n1_ := Aside0.mk (pw_below_drewN HB.out nq)
                                                          clear HO_3
                                                          clear HB
                                                          have HO_3 := n0_
                                                          have HB := n1_
                                                          clear n0_ n1_
                                                          generalize w41.drewN nq = w67 at HO_3 HB ⊢
                                                          try go_wp2
                                                          go_meet
                                                          case rel => exact ⟨_, (decide (((rd_T43 t142 x9_4).f1) ≥ ((rd_T43 t142 x5_1).f1))), (by first | rfl | (simp; done) | (simp [*]; done)), H', ⟨by have := HK1.out; have := HJ13.out; have := HJ28.out; have := HK4.out; first | omega | exact Nat.le_refl _⟩, ⟨by (with_reducible repeat (first | apply Kd.R_alloc | apply Kd.R_drewN | apply Kd.R_drew)); exact HO_3.out⟩, ⟨by repeat (first | (with_reducible first | exact HB.out | apply below_alloc | apply pw_below_drewN | apply below_drew1) | exact HB.out)⟩⟩
                                                      · rw [if_neg c66] at H
                                                        have c66b0 : ((wrap64 (((rd_T43 t142 x9_4).f0) - ((rd_T43 t142 x5_1).f0))) == 0) = false := beq_eq_false_iff_ne.mpr c66
                                                        have c66b1 : ((wrap64 (((rd_T43 t142 x9_4).f0) - ((rd_T43 t142 x5_1).f0))) != 0) = true := bne_iff_ne.mpr c66
                                                        have H' := Aside0.mk H
                                                        clear H
                                                        try go_wp2
                                                        as_aux_lemma =>
                                                          go_quiet ((fail))
                                                          have n0_ := Aside0.mk (Kd.R_drewN HO_3.out nq)
                                                          have n1_ := Aside0.mk (pw_below_drewN HB.out nq)
                                                          clear HO_3
                                                          clear HB
                                                          have HO_3 := n0_
                                                          have HB := n1_
                                                          clear n0_ n1_
                                                          generalize w41.drewN nq = w68 at HO_3 HB ⊢
                                                          try go_wp2
                                                          go_meet
                                                          case rel => exact ⟨_, (false), (by first | rfl | (simp; done) | (simp [*]; done)), H', ⟨by have := HK1.out; have := HJ13.out; have := HJ28.out; have := HK4.out; first | omega | exact Nat.le_refl _⟩, ⟨by (with_reducible repeat (first | apply Kd.R_alloc | apply Kd.R_drewN | apply Kd.R_drew)); exact HO_3.out⟩, ⟨by repeat (first | (with_reducible first | exact HB.out | apply below_alloc | apply pw_below_drewN | apply below_drew1) | exact HB.out)⟩⟩
                                                    · rw [if_neg c65] at H
                                                      have c65b0 : decide (x9_4 < x5_1) = false := decide_eq_false c65
                                                      clear c65
                                                      have H' := Aside0.mk H
                                                      clear H
                                                      try go_wp2
                                                      as_aux_lemma =>
                                                        go_quiet ((fail))
                                                        have n0_ := Aside0.mk (Kd.R_drewN HO_3.out nq)
                                                        have n1_ := Aside0.mk (pw_below_drewN HB.out nq)
                                                        clear HO_3
                                                        clear HB
                                                        have HO_3 := n0_
                                                        have HB := n1_
                                                        clear n0_ n1_
                                                        generalize w41.drewN nq = w69 at HO_3 HB ⊢
                                                        try go_wp2
                                                        go_meet
                                                        case rel => exact ⟨_, (false), (by first | rfl | (simp; done) | (simp [*]; done)), H', ⟨by have := HK1.out; have := HJ13.out; have := HJ28.out; have := HK4.out; first | omega | exact Nat.le_refl _⟩, ⟨by (with_reducible repeat (first | apply Kd.R_alloc | apply Kd.R_drewN | apply Kd.R_drew)); exact HO_3.out⟩, ⟨by repeat (first | (with_reducible first | exact HB.out | apply below_alloc | apply pw_below_drewN | apply below_drew1) | exact HB.out)⟩⟩
                                              case rest =>
                                                clear HC40
                                                try clear p2
                                                try clear c6
                                                try clear p6
                                                try clear p64
                                                try clear c65
                                                try clear c65b0
                                                try clear c66
                                                try clear c66b0
                                                try clear c66b1
                                                obtain ⟨kq, x170_39, rfl, HA, HJ39, HO_3, HB⟩ := hcut
                                                cases kq with
                                                | zero => exact absurd HA.out (by simp [portagelaw3_HuffApart.j4])
                                                | succ kj39 =>
                                                  have H := HA.out
                                                  clear HA
                                                  simp only [portagelaw3_HuffApart.j4] at H
                                                  by_cases c70 : x170_39 = true
                                                  · subst c70
                                                    have H1 : (none) = some r := by rw [if_pos rfl] at H; exact H
                                                    clear H
                                                    have H := H1
                                                    clear H1
                                                    exact absurd H (by simp)
                                                  · replace c70 := Bool.eq_false_iff.mpr c70
                                                    subst c70
                                                    have H1 : (portagelaw3_HuffApart.l1 kj39 l0 t142 x5_1 (wrap64 (x9_4 + 1))) = some r := by rw [if_neg (show ¬ (false = true) by decide)] at H; exact H
                                                    clear H
                                                    have H := H1
                                                    clear H1
                                                    have H' := Aside0.mk H
                                                    clear H
                                                    go_wp2
                                                    go_roundg kj39
                                                    case measure => have := HK1.out; have := HJ13.out; have := HJ28.out; have := HK4.out; have := HJ39.out; omega
                                                    case rel => exact ⟨(wrap64 (x9_4 + 1)), (by first | rfl | (simp; done) | (simp [*]; done)), H', ⟨by have := HK1.out; have := HJ13.out; have := HJ28.out; have := HK4.out; have := HJ39.out; omega⟩, ⟨by (with_reducible repeat (first | apply Kd.R_alloc | apply Kd.R_drewN | apply Kd.R_drew)); exact HO_3.out⟩, ⟨by repeat (first | (with_reducible first | exact HB.out | apply below_alloc | apply pw_below_drewN | apply below_drew1) | exact HB.out)⟩⟩
                                            · rw [if_neg c39] at H
                                              exact absurd H (by simp)
                                          · rw [if_neg c38] at H
                                            exact absurd H (by simp)
                                        · rw [if_neg c37] at H
                                          exact absurd H (by simp)
                                      · rw [if_neg c36] at H
                                        have c36b0 : decide (x9_4 < (t142.length : Int)) = false := decide_eq_false c36
                                        clear c36
                                        have H' := Aside0.mk H
                                        clear H
                                        go_wp2
                                        go_roundg k4
                                        case measure => have := HK1.out; have := HJ13.out; have := HJ28.out; have := HK4.out; omega
                                        case rel => exact ⟨(wrap64 (x5_1 + 1)), (by first | rfl | (simp; done) | (simp [*]; done)), H', ⟨by have := HK1.out; have := HJ13.out; have := HJ28.out; have := HK4.out; omega⟩, ⟨by (with_reducible repeat (first | apply Kd.R_alloc | apply Kd.R_drewN | apply Kd.R_drew)); exact HO_3.out⟩, ⟨by repeat (first | (with_reducible first | exact HB.out | apply below_alloc | apply pw_below_drewN | apply below_drew1) | exact HB.out)⟩⟩
                        · rw [if_neg c26] at H
                          exact absurd H (by simp)
                      · rw [if_neg c25] at H
                        exact absurd H (by simp)
              · rw [if_neg c13] at H
                have c13b0 : decide (x5_1 < (t142.length : Int)) = false := decide_eq_false c13
                clear c13
                obtain rfl := Option.some.inj H
                go_wp2
                go_ret
                exact ⟨by first | rfl | (simp [errW_none, errW_some] <;> rfl) | (simp [*, errW_none, errW_some] <;> rfl), by repeat (first | (with_reducible first | exact HB.out | apply below_alloc | apply pw_below_drewN | apply below_drew1) | exact HB.out)⟩
        · rw [if_neg c9] at H
          exact absurd H (by simp)
      · rw [if_neg c8] at H
        have c8b0 : (t146 == 0) = false := beq_eq_false_iff_ne.mpr c8
        have c8b1 : (t146 != 0) = true := bne_iff_ne.mpr c8
        obtain rfl := Option.some.inj H
        go_enter Try.func4, Try.ntmps4
        go_wp2_with (first | ((with_reducible refine gate_callee (f := 34) rfl ?_); refine goesL_ (some 11) rfl rfl Try.func34 (by kernel_rfl) rfl #[] rfl (by (try simp only [List.map_toArray, List.map_cons, List.map_nil]); first | done | rfl | (simp only [List.length_drop, List.length_take]; rfl)) ?_; (with_reducible refine (portagelaw3_awake.calls k  true _ A2.out).mono ?_); rintro e w71 ⟨rfl, hb⟩; refine ⟨_, rfl, ?_⟩; have n0_ := Aside0.mk (below_step (by repeat (first | (with_reducible first | exact HB.out | apply below_alloc | apply pw_below_drewN | apply below_drew1) | exact HB.out)) hb); clear HB; have HB := n0_; clear n0_; (try clear hb); (try clear hb2); (try clear hk); (try clear hi)) | ((with_reducible refine gate_callee (f := 24) rfl ?_); refine goesL_ (some 18) rfl rfl Try.func24 (by kernel_rfl) rfl #[.slice A0 l0.length c0] rfl (by (try simp only [List.map_toArray, List.map_cons, List.map_nil]); first | done | rfl | (simp only [List.length_drop, List.length_take]; rfl)) ?_; (with_reducible refine (huff_Codes.calls _ _ l0 t142 t143 _ ?side1 ?side2 A6.out).mono ?_); (case side1 => repeat (first | exact (Kd.C_below HR0.out HB.out) | (with_reducible refine Kd.C_alloc ?_ _) | (with_reducible refine Kd.C_drewN ?_ _) | (with_reducible refine Kd.C_drew ?_))); (case side2 => exact HC0.out); rintro e w72 ⟨v144, rfl, ho0, hb⟩; refine ⟨_, rfl, ?_⟩; have n0_ := Aside0.mk (Kd.R_lower ho0 (below_size (by repeat (first | (with_reducible first | exact HB.out | apply below_alloc | apply pw_below_drewN | apply below_drew1) | exact HB.out)))); have n1_ := Aside0.mk (below_step (by repeat (first | (with_reducible first | exact HB.out | apply below_alloc | apply pw_below_drewN | apply below_drew1) | exact HB.out)) hb); clear HB; have HO145 := n0_; have HB := n1_; clear n0_ n1_; (try clear hb); (try clear hb2); (try clear hk); (try clear hi); (try clear ho0)) | ((with_reducible refine gate_callee (f := 29) rfl ?_); refine goesL_ (some 22) rfl rfl Try.func29 (by kernel_rfl) rfl #[.int .i64 t143] rfl (by (try simp only [List.map_toArray, List.map_cons, List.map_nil]); first | done | rfl | (simp only [List.length_drop, List.length_take]; rfl)) ?_; (with_reducible refine (portagelaw0_Num.calls t143 t146 _ A7.out).mono ?_); rintro e w' ⟨rfl, ⟨nd, rfl⟩⟩; refine ⟨_, rfl, ?_⟩; obtain ⟨Ao73, co73, eo73⟩ := Kd.R_slice HO145.out; subst eo73))
        go_ret
        exact ⟨by first | rfl | (simp [errW_none, errW_some] <;> rfl) | (simp [*, errW_none, errW_some] <;> rfl), by repeat (first | (with_reducible first | exact HB.out | apply below_alloc | apply pw_below_drewN | apply below_drew1) | exact HB.out)⟩
  · replace c3 := Bool.eq_false_iff.mpr c3
    subst c3
    have H1 : (none) = some r := by rw [if_neg (show ¬ (false = true) by decide)] at H; exact H
    clear H
    have H := H1
    clear H1
    exact absurd H (by simp)

/-- THE ONE PURE STATEMENT of portagelaw3_HuffApart: yours. -/
def portagelaw3_HuffApart.Pure : Prop := ∀ (l0 : List Int), l0.length ≤ maxLen → l0.length * 8 ≤ 140737488351232 → (∀ x ∈ l0, (Lit.int .i64 x).wf = true) → ∃ k, portagelaw3_HuffApart.f k l0 = some true
theorem portagelaw3_HuffApart.walk (P : portagelaw3_HuffApart.Pure) (a0 : Option Addr) (len0 cap0 : Nat) (z0 : List Int) (w : World) (w0 : (a0 = none ∧ len0 = 0 ∧ cap0 = 0 ∧ z0 = []) ∨ ∃ x, a0 = some x ∧ len0 ≤ cap0 ∧ cap0 ≤ maxLen ∧ z0.length = cap0 ∧ (∀ i, i < z0.length → w.cell? (x.add i) = some (.int .i64 (z0.getD i 0))) ∧ ∀ n ∈ z0, (Lit.int .i64 n).wf = true) (y0 : len0 * 8 ≤ 140737488351232) :
    Calls Try.prog 4 #[.slice a0 len0 cap0] w fun e w' => e = .returned (.bool true) ∧ Below w.heap.size w w' := by
  obtain ⟨l0, rfl, hr0, hm0, hw0, hc0⟩ := ReadsInt.ofRowC w0
  obtain ⟨k, h⟩ := P l0 hm0 y0 hw0
  refine (portagelaw3_HuffApart.calls k _ _ l0 true w (Kd.C_of_reads (d := (0 : Int)) (h1 := fun _ => rfl) hr0) hc0 h).mono ?_
  rintro e w' ⟨rfl, hd⟩
  exact ⟨rfl, hd⟩

end Go.Proofs.Ytbifignggnfodaa.HA
