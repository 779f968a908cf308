-- Written by a program of this session out of the translation (a changed copy of the kit's printer).
import Derived.Test.YtbifignggnfodaaBW0
import Derived.Test.YtbifignggnfodaaBW1
import Derived.Test.YtbifignggnfodaaBW3
import Derived.Test.YtbifignggnfodaaBW5
import Derived.Test.YtbifignggnfodaaBW6
import Derived.Test.YtbifignggnfodaaBW7
import Derived.Test.YtbifignggnfodaaBW8
import Derived.Test.YtbifignggnfodaaBW9
import Derived.Test.YtbifignggnfodaaBW10
namespace Go.Proofs.Ytbifignggnfodaa.BW
open Go.RowKit Go.Proofs.YtbifignggnfodaaW.PrintWords Go.Proofs.YtbifignggnfodaaW.PrintLast Go.Proofs.YtbifignggnfodaaW.PrintMore
attribute [local go_sem] max2_int min2_int max_two min_two max_three min_three max_four min_four   -- for this text's walks alone
set_option linter.unusedVariables false
set_option linter.unusedSimpArgs false

/-! ### portagelaw1_Writes: function 9 -/
mutual
def portagelaw1_Writes.l0 : Nat → List (S58) → ByteArray → List Int → Int → List Int → Int → List Int → Int → Option (Bool)
  | 0, _, _, _, _, _, _, _, _ => none
  | k + 1, x0, x1, x2, x9, x398000, x398001, x399000, x399001 => if x9 < (x0.length : Int) then (portagelaw1_Writes.j1 k x0 x1 x2 x9 (decide (x9 < 200)) x398000 x398001 x399000 x399001) else (portagelaw1_Writes.j1 k x0 x1 x2 x9 false x398000 x398001 x399000 x399001)
def portagelaw1_Writes.j1 : Nat → List (S58) → ByteArray → List Int → Int → Bool → List Int → Int → List Int → Int → Option (Bool)
  | 0, _, _, _, _, _, _, _, _, _ => none
  | k + 1, x0, x1, x2, x9, x31, x398000, x398001, x399000, x399001 => if x31 = true then (if 0 ≤ x9 then (if x9 < (x0.length : Int) then (if ((rd_T58 x0 x9).f0) = 0 then ((bits_Writer_Put.f k x398000 x398001 ((rd_T58 x0 x9).f1) ((rd_T58 x0 x9).f2)).bind fun bt401 => ((portagelaw0_Num.f bt401.1).bind fun t406 => ((portageref1_Writer_Put.f k x399000 x399001 ((rd_T58 x0 x9).f1) ((rd_T58 x0 x9).f2)).bind fun bt407 => (if t406 = bt407.1 then ((bits_Writer_Len.f bt401.2.1 bt401.2.2).bind fun bt412 => (if bt412.1 = bt407.2.2 then (portagelaw1_Writes.l0 k x0 x1 x2 (wrap64 (x9 + 1)) bt412.2.1 bt412.2.2 bt407.2.1 bt407.2.2) else (none))) else (none))))) else (if ((rd_T58 x0 x9).f0) = 1 then ((bits_Writer_Code.f k x398000 x398001 ((rd_T58 x0 x9).f2) ((rd_T58 x0 x9).f1)).bind fun bt418 => ((portagelaw0_Num.f bt418.1).bind fun t423 => ((portageref1_Writer_Code.f k x399000 x399001 ((rd_T58 x0 x9).f2) ((rd_T58 x0 x9).f1)).bind fun bt424 => (if t423 = bt424.1 then ((bits_Writer_Len.f bt418.2.1 bt418.2.2).bind fun bt429 => (if bt429.1 = bt424.2.2 then (portagelaw1_Writes.l0 k x0 x1 x2 (wrap64 (x9 + 1)) bt429.2.1 bt429.2.2 bt424.2.1 bt424.2.2) else (none))) else (none))))) else ((bits_Writer_Align.f x398000 x398001).bind fun bt434 => ((portagelaw0_Num.f bt434.1).bind fun t439 => (if t439 = 0 then ((portageref1_Writer_Align.f k x399000 x399001).bind fun bt440 => ((bits_Writer_Len.f bt434.2.1 bt434.2.2).bind fun bt444 => (if bt444.1 = bt440.2 then (portagelaw1_Writes.l0 k x0 x1 x2 (wrap64 (x9 + 1)) bt444.2.1 bt444.2.2 bt440.1 bt440.2) else (none)))) else (none)))))) else (none)) else (none)) else ((bits_Writer_Text.f x398000 x398001).bind fun bt451 => ((portageref1_Writer_Text.f x399000 x399001).bind fun bt456 => (if bt451.1.toList = bt456.1.toList then (portagelaw1_Writes.l1 k x2 0 x1 0 x1 0) else (none))))
def portagelaw1_Writes.l1 : Nat → List Int → Int → ByteArray → Int → ByteArray → Int → Option (Bool)
  | 0, _, _, _, _, _, _ => none
  | k + 1, x2, x14, x450000, x450001, x451000, x451001 => if x14 < (x2.length : Int) then (portagelaw1_Writes.j3 k x2 x14 (decide (x14 < 100)) x450000 x450001 x451000 x451001) else (portagelaw1_Writes.j3 k x2 x14 false x450000 x450001 x451000 x451001)
def portagelaw1_Writes.j3 : Nat → List Int → Int → Bool → ByteArray → Int → ByteArray → Int → Option (Bool)
  | 0, _, _, _, _, _, _, _ => none
  | k + 1, x2, x14, x105, x450000, x450001, x451000, x451001 => if x105 = true then (if 0 ≤ x14 then (if x14 < (x2.length : Int) then (if (rd x2 x14) = 99 then ((bits_Reader_Align.f x450000 x450001).bind fun bt463 => ((portagelaw0_Num.f bt463.1).bind fun t466 => (if t466 = 0 then ((portageref1_Reader_Align.f x451000 x451001).bind fun bt467 => (portagelaw1_Writes.l1 k x2 (wrap64 (x14 + 1)) bt463.2.1 bt463.2.2 bt467.1 bt467.2)) else (none)))) else ((bits_Reader_Get.f k x450000 x450001 (rd x2 x14)).bind fun bt470 => ((portageref1_Reader_Get.f k x451000 x451001 (rd x2 x14)).bind fun bt475 => (if bt470.1 = bt475.1 then ((portagelaw0_Num.f bt470.2.1).bind fun t479 => (if t479 = bt475.2.1 then ((bits_Reader_At.f bt470.2.2.1 bt470.2.2.2).bind fun bt480 => (if bt480.1 = bt475.2.2.2 then (portagelaw1_Writes.l1 k x2 (wrap64 (x14 + 1)) bt480.2.1 bt480.2.2 bt475.2.2.1 bt475.2.2.2) else (none))) else (none))) else (none))))) else (none)) else (none)) else ((portagelaw1_awake.f k).bind fun t461 => (some t461))
end
def portagelaw1_Writes.f (k : Nat) (l0 : List (S58)) (a1 : ByteArray) (l2 : List Int) : Option (Bool) := portagelaw1_Writes.l0 k l0 a1 l2 0 ([] : List Int) 0 ([] : List Int) 0
theorem portagelaw1_Writes.mono_l : ∀ k, (∀ y0 y1 y2 y3 y4 y5 y6 y7, LeO (portagelaw1_Writes.l0 k y0 y1 y2 y3 y4 y5 y6 y7) (portagelaw1_Writes.l0 (k + 1) y0 y1 y2 y3 y4 y5 y6 y7)) ∧ (∀ y0 y1 y2 y3 y4 y5 y6 y7 y8, LeO (portagelaw1_Writes.j1 k y0 y1 y2 y3 y4 y5 y6 y7 y8) (portagelaw1_Writes.j1 (k + 1) y0 y1 y2 y3 y4 y5 y6 y7 y8)) ∧ (∀ y0 y1 y2 y3 y4 y5, LeO (portagelaw1_Writes.l1 k y0 y1 y2 y3 y4 y5) (portagelaw1_Writes.l1 (k + 1) y0 y1 y2 y3 y4 y5)) ∧ (∀ y0 y1 y2 y3 y4 y5 y6, LeO (portagelaw1_Writes.j3 k y0 y1 y2 y3 y4 y5 y6) (portagelaw1_Writes.j3 (k + 1) y0 y1 y2 y3 y4 y5 y6))
  | 0 => ⟨fun _ _ _ _ _ _ _ _ r h => by simp [portagelaw1_Writes.l0] at h, fun _ _ _ _ _ _ _ _ _ r h => by simp [portagelaw1_Writes.j1] at h, fun _ _ _ _ _ _ r h => by simp [portagelaw1_Writes.l1] at h, fun _ _ _ _ _ _ _ r h => by simp [portagelaw1_Writes.j3] at h⟩
  | k + 1 => by
    obtain ⟨ih0, ih1, ih2, ih3⟩ := portagelaw1_Writes.mono_l k
    refine ⟨?_, ?_, ?_, ?_⟩
    · intro y0 y1 y2 y3 y4 y5 y6 y7
      unfold portagelaw1_Writes.l0
      repeat' first
      | (with_reducible exact ih0 _ _ _ _ _ _ _ _)
      | (with_reducible exact ih1 _ _ _ _ _ _ _ _ _)
      | (with_reducible exact ih2 _ _ _ _ _ _)
      | (with_reducible exact ih3 _ _ _ _ _ _ _)
      | (with_reducible exact bits_Reader_Get.mono _ _ _ _)
      | (with_reducible exact bits_Writer_Code.mono _ _ _ _ _)
      | (with_reducible exact bits_Writer_Put.mono _ _ _ _ _)
      | (with_reducible exact portagelaw1_awake.mono _)
      | (with_reducible exact portageref1_Reader_Get.mono _ _ _ _)
      | (with_reducible exact portageref1_Writer_Align.mono _ _ _)
      | (with_reducible exact portageref1_Writer_Code.mono _ _ _ _ _)
      | (with_reducible exact portageref1_Writer_Put.mono _ _ _ _ _)
      | (with_reducible exact LeO.refl _)
      | (with_reducible exact LeO.none _)
      | (with_reducible refine LeO.ite ?_ ?_)
      | (with_reducible refine LeO.bind ?_ (fun _ => ?_))
      | exact ih0 _ _ _ _ _ _ _ _
      | exact ih1 _ _ _ _ _ _ _ _ _
      | exact ih2 _ _ _ _ _ _
      | exact ih3 _ _ _ _ _ _ _
      | exact bits_Reader_Get.mono _ _ _ _
      | exact bits_Writer_Code.mono _ _ _ _ _
      | exact bits_Writer_Put.mono _ _ _ _ _
      | exact portagelaw1_awake.mono _
      | exact portageref1_Reader_Get.mono _ _ _ _
      | exact portageref1_Writer_Align.mono _ _ _
      | exact portageref1_Writer_Code.mono _ _ _ _ _
      | exact portageref1_Writer_Put.mono _ _ _ _ _
      | exact LeO.none _
      | refine LeO.ite ?_ ?_
      | refine LeO.bind ?_ (fun _ => ?_)
    · intro y0 y1 y2 y3 y4 y5 y6 y7 y8
      unfold portagelaw1_Writes.j1
      repeat' first
      | (with_reducible exact ih0 _ _ _ _ _ _ _ _)
      | (with_reducible exact ih1 _ _ _ _ _ _ _ _ _)
      | (with_reducible exact ih2 _ _ _ _ _ _)
      | (with_reducible exact ih3 _ _ _ _ _ _ _)
      | (with_reducible exact bits_Reader_Get.mono _ _ _ _)
      | (with_reducible exact bits_Writer_Code.mono _ _ _ _ _)
      | (with_reducible exact bits_Writer_Put.mono _ _ _ _ _)
      | (with_reducible exact portagelaw1_awake.mono _)
      | (with_reducible exact portageref1_Reader_Get.mono _ _ _ _)
      | (with_reducible exact portageref1_Writer_Align.mono _ _ _)
      | (with_reducible exact portageref1_Writer_Code.mono _ _ _ _ _)
      | (with_reducible exact portageref1_Writer_Put.mono _ _ _ _ _)
      | (with_reducible exact LeO.refl _)
      | (with_reducible exact LeO.none _)
      | (with_reducible refine LeO.ite ?_ ?_)
      | (with_reducible refine LeO.bind ?_ (fun _ => ?_))
      | exact ih0 _ _ _ _ _ _ _ _
      | exact ih1 _ _ _ _ _ _ _ _ _
      | exact ih2 _ _ _ _ _ _
      | exact ih3 _ _ _ _ _ _ _
      | exact bits_Reader_Get.mono _ _ _ _
      | exact bits_Writer_Code.mono _ _ _ _ _
      | exact bits_Writer_Put.mono _ _ _ _ _
      | exact portagelaw1_awake.mono _
      | exact portageref1_Reader_Get.mono _ _ _ _
      | exact portageref1_Writer_Align.mono _ _ _
      | exact portageref1_Writer_Code.mono _ _ _ _ _
      | exact portageref1_Writer_Put.mono _ _ _ _ _
      | exact LeO.none _
      | refine LeO.ite ?_ ?_
      | refine LeO.bind ?_ (fun _ => ?_)
    · intro y0 y1 y2 y3 y4 y5
      unfold portagelaw1_Writes.l1
      repeat' first
      | (with_reducible exact ih0 _ _ _ _ _ _ _ _)
      | (with_reducible exact ih1 _ _ _ _ _ _ _ _ _)
      | (with_reducible exact ih2 _ _ _ _ _ _)
      | (with_reducible exact ih3 _ _ _ _ _ _ _)
      | (with_reducible exact bits_Reader_Get.mono _ _ _ _)
      | (with_reducible exact bits_Writer_Code.mono _ _ _ _ _)
      | (with_reducible exact bits_Writer_Put.mono _ _ _ _ _)
      | (with_reducible exact portagelaw1_awake.mono _)
      | (with_reducible exact portageref1_Reader_Get.mono _ _ _ _)
      | (with_reducible exact portageref1_Writer_Align.mono _ _ _)
      | (with_reducible exact portageref1_Writer_Code.mono _ _ _ _ _)
      | (with_reducible exact portageref1_Writer_Put.mono _ _ _ _ _)
      | (with_reducible exact LeO.refl _)
      | (with_reducible exact LeO.none _)
      | (with_reducible refine LeO.ite ?_ ?_)
      | (with_reducible refine LeO.bind ?_ (fun _ => ?_))
      | exact ih0 _ _ _ _ _ _ _ _
      | exact ih1 _ _ _ _ _ _ _ _ _
      | exact ih2 _ _ _ _ _ _
      | exact ih3 _ _ _ _ _ _ _
      | exact bits_Reader_Get.mono _ _ _ _
      | exact bits_Writer_Code.mono _ _ _ _ _
      | exact bits_Writer_Put.mono _ _ _ _ _
      | exact portagelaw1_awake.mono _
      | exact portageref1_Reader_Get.mono _ _ _ _
      | exact portageref1_Writer_Align.mono _ _ _
      | exact portageref1_Writer_Code.mono _ _ _ _ _
      | exact portageref1_Writer_Put.mono _ _ _ _ _
      | exact LeO.none _
      | refine LeO.ite ?_ ?_
      | refine LeO.bind ?_ (fun _ => ?_)
    · intro y0 y1 y2 y3 y4 y5 y6
      unfold portagelaw1_Writes.j3
      repeat' first
      | (with_reducible exact ih0 _ _ _ _ _ _ _ _)
      | (with_reducible exact ih1 _ _ _ _ _ _ _ _ _)
      | (with_reducible exact ih2 _ _ _ _ _ _)
      | (with_reducible exact ih3 _ _ _ _ _ _ _)
      | (with_reducible exact bits_Reader_Get.mono _ _ _ _)
      | (with_reducible exact bits_Writer_Code.mono _ _ _ _ _)
      | (with_reducible exact bits_Writer_Put.mono _ _ _ _ _)
      | (with_reducible exact portagelaw1_awake.mono _)
      | (with_reducible exact portageref1_Reader_Get.mono _ _ _ _)
      | (with_reducible exact portageref1_Writer_Align.mono _ _ _)
      | (with_reducible exact portageref1_Writer_Code.mono _ _ _ _ _)
      | (with_reducible exact portageref1_Writer_Put.mono _ _ _ _ _)
      | (with_reducible exact LeO.refl _)
      | (with_reducible exact LeO.none _)
      | (with_reducible refine LeO.ite ?_ ?_)
      | (with_reducible refine LeO.bind ?_ (fun _ => ?_))
      | exact ih0 _ _ _ _ _ _ _ _
      | exact ih1 _ _ _ _ _ _ _ _ _
      | exact ih2 _ _ _ _ _ _
      | exact ih3 _ _ _ _ _ _ _
      | exact bits_Reader_Get.mono _ _ _ _
      | exact bits_Writer_Code.mono _ _ _ _ _
      | exact bits_Writer_Put.mono _ _ _ _ _
      | exact portagelaw1_awake.mono _
      | exact portageref1_Reader_Get.mono _ _ _ _
      | exact portageref1_Writer_Align.mono _ _ _
      | exact portageref1_Writer_Code.mono _ _ _ _ _
      | exact portageref1_Writer_Put.mono _ _ _ _ _
      | exact LeO.none _
      | refine LeO.ite ?_ ?_
      | refine LeO.bind ?_ (fun _ => ?_)
theorem portagelaw1_Writes.mono : ∀ a0 a1 a2 k, LeO (portagelaw1_Writes.f k a0 a1 a2) (portagelaw1_Writes.f (k + 1) a0 a1 a2) := by
  intro a0 a1 a2 k
  obtain ⟨ih0, ih1, ih2, ih3⟩ := portagelaw1_Writes.mono_l k
  unfold portagelaw1_Writes.f
  repeat' first
      | (with_reducible exact ih0 _ _ _ _ _ _ _ _)
      | (with_reducible exact ih1 _ _ _ _ _ _ _ _ _)
      | (with_reducible exact ih2 _ _ _ _ _ _)
      | (with_reducible exact ih3 _ _ _ _ _ _ _)
      | (with_reducible exact bits_Reader_Get.mono _ _ _ _)
      | (with_reducible exact bits_Writer_Code.mono _ _ _ _ _)
      | (with_reducible exact bits_Writer_Put.mono _ _ _ _ _)
      | (with_reducible exact portagelaw1_awake.mono _)
      | (with_reducible exact portageref1_Reader_Get.mono _ _ _ _)
      | (with_reducible exact portageref1_Writer_Align.mono _ _ _)
      | (with_reducible exact portageref1_Writer_Code.mono _ _ _ _ _)
      | (with_reducible exact portageref1_Writer_Put.mono _ _ _ _ _)
      | (with_reducible exact LeO.refl _)
      | (with_reducible exact LeO.none _)
      | (with_reducible refine LeO.ite ?_ ?_)
      | (with_reducible refine LeO.bind ?_ (fun _ => ?_))
      | exact ih0 _ _ _ _ _ _ _ _
      | exact ih1 _ _ _ _ _ _ _ _ _
      | exact ih2 _ _ _ _ _ _
      | exact ih3 _ _ _ _ _ _ _
      | exact bits_Reader_Get.mono _ _ _ _
      | exact bits_Writer_Code.mono _ _ _ _ _
      | exact bits_Writer_Put.mono _ _ _ _ _
      | exact portagelaw1_awake.mono _
      | exact portageref1_Reader_Get.mono _ _ _ _
      | exact portageref1_Writer_Align.mono _ _ _
      | exact portageref1_Writer_Code.mono _ _ _ _ _
      | exact portageref1_Writer_Put.mono _ _ _ _ _
      | exact LeO.none _
      | refine LeO.ite ?_ ?_
      | refine LeO.bind ?_ (fun _ => ?_)
def portagelaw1_Writes.T14 : Bool × List (List Nat × List Nat) := (true, [([], []), ([], []), ([1], [1]), ([], []), ([3], [3]), ([0, 2, 4], [0, 2, 4]), ([5, 5], [5]), ([], []), ([], []), ([8], [8]), ([], []), ([10], [10]), ([7, 9, 11, 6], [7, 9, 11]), ([6, 12], [6, 12])])
def portagelaw1_Writes.B14 : List Nat := [0, 0, 2, 0, 8, 31, 63, 0, 0, 256, 0, 1024, 4095, 8191]
theorem portagelaw1_Writes.tab14 : rtab .any (opsOf Try.f9 14) = portagelaw1_Writes.T14 := by kernel_rfl
theorem portagelaw1_Writes.bits14 : waitsOk portagelaw1_Writes.T14.2 portagelaw1_Writes.B14 = true := by kernel_rfl
def portagelaw1_Writes.T18 : Bool × List (List Nat × List Nat) := (true, [([], []), ([], []), ([0, 1], [0, 1]), ([2, 2], [2]), ([], []), ([], []), ([4, 5, 3], [4, 5]), ([3, 6], [3, 6])])
def portagelaw1_Writes.B18 : List Nat := [0, 0, 3, 7, 0, 0, 63, 127]
theorem portagelaw1_Writes.tab18 : rtab .any (opsOf Try.f9 18) = portagelaw1_Writes.T18 := by kernel_rfl
theorem portagelaw1_Writes.bits18 : waitsOk portagelaw1_Writes.T18.2 portagelaw1_Writes.B18 = true := by kernel_rfl
def portagelaw1_Writes.T35 : Bool × List (List Nat × List Nat) := (true, [([], []), ([], []), ([0, 1], [0, 1]), ([2], [2]), ([3], [3]), ([4, 3, 3], [3, 4]), ([3], [3]), ([5, 6, 3], [3, 5, 6]), ([3, 7], [3, 7]), ([8, 5], [8]), ([9], [9]), ([10, 9, 9], [9, 10]), ([9], [9]), ([12, 9], [9, 12]), ([13, 9], [9, 13]), ([14, 9], [9, 14]), ([11, 15, 9], [9, 11, 15]), ([9, 16], [9, 16])])
def portagelaw1_Writes.B35 : List Nat := [0, 0, 3, 7, 15, 31, 15, 127, 255, 511, 1023, 2047, 1023, 5119, 13311, 29695, 65535, 131071]
theorem portagelaw1_Writes.tab35 : rtab .any (opsOf Try.f9 35) = portagelaw1_Writes.T35 := by kernel_rfl
theorem portagelaw1_Writes.bits35 : waitsOk portagelaw1_Writes.T35.2 portagelaw1_Writes.B35 = true := by kernel_rfl
set_option maxHeartbeats 8000000 in
set_option maxRecDepth 100000 in
theorem portagelaw1_Writes.calls (k : Nat) (A0 : Option Addr) (c0 : Nat) (l0 : List (S58)) (a1 : ByteArray) (A2 : Option Addr) (c2 : Nat) (l2 : List Int) (r : Bool) (w : World) (hr0 : Kd.C k58 w A0 l0.length l0) (hc0 : l0.length ≤ c0) (hr2 : Kd.C (Kd.int .i64) w A2 l2.length l2) (hc2 : l2.length ≤ c2) (h : portagelaw1_Writes.f k l0 a1 l2 = some r) :
    Calls Try.prog 9 #[.slice A0 l0.length c0, .string a1, .slice A2 l2.length c2] w fun e w' => e = .returned (.bool r) ∧ Below w.heap.size w w' := by
  have hu56 := Try.underlying56
  have hu58 := Try.underlying58
  have hu43 := Try.underlying43
  have hu69 := Try.underlying69
  have HR0 := Aside0.mk hr0
  have HC0 := Aside0.mk hc0
  clear hr0 hc0
  have HR2 := Aside0.mk hr2
  have HC2 := Aside0.mk hc2
  clear hr2 hc2
  have HB := Aside0.mk (Below.refl w.heap.size w)
  have H : (portagelaw1_Writes.l0 k l0 a1 l2 0 ([] : List Int) 0 ([] : List Int) 0) = some r := h
  clear h
  have H' := Aside0.mk H
  clear H
  go_enter Try.func9, Try.ntmps9
  go_wp2_with (first | (go_at_call 35; (with_reducible refine (bits_New.calls  _).mono ?_); rintro e w4 ⟨gb397, rfl, hg, hbox, hb⟩; have n0_ := Aside0.mk (below_step (by repeat (first | (with_reducible first | exact HB.out | apply below_alloc | apply pw_below_drewN | apply below_drew1) | exact HB.out)) hb); have n1_ := Aside0.mk (hbox); have n2_ := Aside0.mk ((by rw [hg]; exact (below_size (by repeat (first | (with_reducible first | exact HB.out | apply below_alloc | apply pw_below_drewN | apply below_drew1) | exact HB.out))) : w.heap.size ≤ gb397)); have n3_ := Aside0.mk ((by rw [hg]; exact (below_size (by repeat (first | (with_reducible first | exact HB.out | apply below_alloc | apply pw_below_drewN | apply below_drew1) | exact HB.out))) : w.heap.size ≤ gb397)); clear HB; have HB := n0_; have BK397 := n1_; have GW397 := n2_; have GE397 := n3_; clear n0_ n1_ n2_ n3_; clear hb hbox hg) | ((with_reducible refine gate_dst (N := 21) rfl ?_); refine box_event ?hg (N := 21) ?hd (cs := #[.slice none 0 0, .int .i64 0]) (t := 56) ?hr ?_; (case hd => rfl); (case hg => rfl); (case hr => first | (go_simp; done) | (go_simp; rfl)); intro gb398 hg w5 hbox hb; have n0_ := Aside0.mk (blk_below (g := gb397) (o := .cells #[.slice none 0 0, .int .i64 0] 103 (0, 0)) (by (with_reducible repeat (first | refine blk_drewN ?_ _ | refine blk_drew ?_ | refine blk_alloc ?_ _)); exact BK397.out) hb); have n1_ := Aside0.mk (below_step (by repeat (first | (with_reducible first | exact HB.out | apply below_alloc | apply pw_below_drewN | apply below_drew1 | refine below_set ?_ GE397.out) | exact HB.out)) hb); have n2_ := Aside0.mk (hbox); have n3_ := Aside0.mk ((by rw [hg]; exact (below_size (by repeat (first | (with_reducible first | exact HB.out | apply below_alloc | apply pw_below_drewN | apply below_drew1 | refine below_set ?_ GE397.out) | exact HB.out))) : w.heap.size ≤ gb398)); have n4_ := Aside0.mk ((by rw [hg]; exact (below_size (by repeat (first | (with_reducible first | exact HB.out | apply below_alloc | apply pw_below_drewN | apply below_drew1 | refine below_set ?_ GE397.out) | exact HB.out))) : w.heap.size ≤ gb398)); have n5_ := Aside0.mk ((by rw [hg]; exact Nat.ne_of_lt (blk_lt (g := gb397) (o := .cells #[.slice none 0 0, .int .i64 0] 103 (0, 0)) (by (with_reducible repeat (first | refine blk_drewN ?_ _ | refine blk_drew ?_ | refine blk_alloc ?_ _)); exact BK397.out)) : gb397 ≠ gb398)); have n6_ := Aside0.mk ((by rw [hg]; exact Nat.ne_of_gt (blk_lt (g := gb397) (o := .cells #[.slice none 0 0, .int .i64 0] 103 (0, 0)) (by (with_reducible repeat (first | refine blk_drewN ?_ _ | refine blk_drew ?_ | refine blk_alloc ?_ _)); exact BK397.out)) : gb398 ≠ gb397)); clear BK397; clear HB; have BK397 := n0_; have HB := n1_; have BK398 := n2_; have GW398 := n3_; have GE398 := n4_; have NB397_398 := n5_; have NB398_397 := n6_; clear n0_ n1_ n2_ n3_ n4_ n5_ n6_; clear hb hbox hg))
  go_loopg [9] k (fun kq v9 w' => ∃ (x9_1 : Int) (x398000_1 : List Int) (x398001_1 : Int) (x399000_1 : List Int) (x399001_1 : Int) (u398000 : Value) (u399000 : Value), v9 = .int .i64 x9_1 ∧ Aside0 (portagelaw1_Writes.l0 kq l0 a1 l2 x9_1 x398000_1 x398001_1 x399000_1 x399001_1 = some r) ∧ Aside0 (kq ≤ k) ∧ Aside0 (Kd.R (Kd.int .u8) 5 w' w.heap.size (fun k_ => some k_ ≠ (u399000 : Value).ownBlock) u398000 x398000_1) ∧ Aside0 (Kd.R (Kd.int .u8) 5 w' w.heap.size (fun k_ => some k_ ≠ (u398000 : Value).ownBlock) u399000 x399000_1) ∧ Aside0 (w'.heap[gb397]? = some (.cells #[u398000, .int .i64 x398001_1] 103 (0, 0))) ∧ Aside0 (w'.heap[gb398]? = some (.cells #[u399000, .int .i64 x399001_1] 56 (0, 0))) ∧ Aside0 (Below w.heap.size w w'))
  case atStart => exact ⟨(0), (([] : List Int)), (0), (([] : List Int)), (0), (.slice none 0 0), (.slice none 0 0), (by first | rfl | (simp; done) | (simp [*]; done)), H', ⟨Nat.le_refl _⟩, ⟨by first | exact Kd.R_nil _ _ _ _ _ | exact Kd.N_nil _ _ _ _ _ | exact Kd.V_nil _ _ _ _ _ | exact Kd.Q_nil _ _ _ _ _ | exact Kd.S_nil _ _ _ _ _⟩, ⟨by first | exact Kd.R_nil _ _ _ _ _ | exact Kd.N_nil _ _ _ _ _ | exact Kd.V_nil _ _ _ _ _ | exact Kd.Q_nil _ _ _ _ _ | exact Kd.S_nil _ _ _ _ _⟩, ⟨by (with_reducible repeat (first | refine blk_drewN ?_ _ | refine blk_drew ?_ | refine blk_alloc ?_ _)); exact BK397.out⟩, ⟨by (with_reducible repeat (first | refine blk_drewN ?_ _ | refine blk_drew ?_ | refine blk_alloc ?_ _)); exact BK398.out⟩, ⟨by repeat (first | (with_reducible first | exact HB.out | apply below_alloc | apply pw_below_drewN | apply below_drew1 | refine below_set ?_ GE397.out | refine below_set ?_ GE398.out) | exact HB.out)⟩⟩
  case round =>
    clear H'
    try clear c2
    try clear p2
    obtain ⟨x9_1, x398000_1, x398001_1, x399000_1, x399001_1, u398000, u399000, rfl, HA, HK1, HO_398000, HO_399000, BK397, BK398, HB⟩ := hrel
    cases gk with
    | zero => exact absurd HA.out (by simp [portagelaw1_Writes.l0])
    | succ k1 =>
      have H := HA.out
      clear HA
      simp only [portagelaw1_Writes.l0] at H
      have HC6 := Aside0.mk H
      clear H
      go_upto_region 6 with (fail)
      go_cut [31] (fun v31 wc => ∃ (kq : Nat) (x31_5 : Bool), v31 = .bool x31_5 ∧ Aside0 (portagelaw1_Writes.j1 kq l0 a1 l2 x9_1 x31_5 x398000_1 x398001_1 x399000_1 x399001_1 = some r) ∧ Aside0 (kq ≤ k1) ∧ Aside0 (Kd.R (Kd.int .u8) 5 wc w.heap.size (fun k_ => some k_ ≠ (u399000 : Value).ownBlock) u398000 x398000_1) ∧ Aside0 (Kd.R (Kd.int .u8) 5 wc w.heap.size (fun k_ => some k_ ≠ (u398000 : Value).ownBlock) u399000 x399000_1) ∧ Aside0 (wc.heap[gb397]? = some (.cells #[u398000, .int .i64 x398001_1] 103 (0, 0))) ∧ Aside0 (wc.heap[gb398]? = some (.cells #[u399000, .int .i64 x399001_1] 56 (0, 0))) ∧ Aside0 (Below w.heap.size w wc))
      case first =>
        have H := HC6.out
        clear HC6
        by_cases c7 : x9_1 < (l0.length : Int)
        · rw [if_pos c7] at H
          have c7b0 : decide (x9_1 < (l0.length : Int)) = true := decide_eq_true c7
          clear c7
          (first | rw [c7b0] | (simp only [i64_w, i32_w]; rw [c7b0]) | skip)
          have H' := Aside0.mk H
          clear H
          go_wp2
          go_meet
          case rel => exact ⟨_, (decide (x9_1 < 200)), (by first | rfl | (simp; done) | (simp [*]; done)), H', ⟨by have := HK1.out; first | omega | exact Nat.le_refl _⟩, ⟨by (with_reducible repeat (first | apply Kd.R_alloc | apply Kd.R_drewN | apply Kd.R_drew)); exact HO_398000.out⟩, ⟨by (with_reducible repeat (first | apply Kd.R_alloc | apply Kd.R_drewN | apply Kd.R_drew)); exact HO_399000.out⟩, ⟨by (with_reducible repeat (first | refine blk_drewN ?_ _ | refine blk_drew ?_ | refine blk_alloc ?_ _)); exact BK397.out⟩, ⟨by (with_reducible repeat (first | refine blk_drewN ?_ _ | refine blk_drew ?_ | refine blk_alloc ?_ _)); exact BK398.out⟩, ⟨by repeat (first | (with_reducible first | exact HB.out | apply below_alloc | apply pw_below_drewN | apply below_drew1 | refine below_set ?_ GE397.out | refine below_set ?_ GE398.out) | exact HB.out)⟩⟩
        · rw [if_neg c7] at H
          have c7b0 : decide (x9_1 < (l0.length : Int)) = false := decide_eq_false c7
          clear c7
          (first | rw [c7b0] | (simp only [i64_w, i32_w]; rw [c7b0]) | skip)
          have H' := Aside0.mk H
          clear H
          go_wp2
          go_meet
          case rel => exact ⟨_, (false), (by first | rfl | (simp; done) | (simp [*]; done)), H', ⟨by have := HK1.out; first | omega | exact Nat.le_refl _⟩, ⟨by (with_reducible repeat (first | apply Kd.R_alloc | apply Kd.R_drewN | apply Kd.R_drew)); exact HO_398000.out⟩, ⟨by (with_reducible repeat (first | apply Kd.R_alloc | apply Kd.R_drewN | apply Kd.R_drew)); exact HO_399000.out⟩, ⟨by (with_reducible repeat (first | refine blk_drewN ?_ _ | refine blk_drew ?_ | refine blk_alloc ?_ _)); exact BK397.out⟩, ⟨by (with_reducible repeat (first | refine blk_drewN ?_ _ | refine blk_drew ?_ | refine blk_alloc ?_ _)); exact BK398.out⟩, ⟨by repeat (first | (with_reducible first | exact HB.out | apply below_alloc | apply pw_below_drewN | apply below_drew1 | refine below_set ?_ GE397.out | refine below_set ?_ GE398.out) | exact HB.out)⟩⟩
      case rest =>
        clear HC6
        try clear c2
        try clear p2
        try clear c7
        try clear c7b0
        try clear p2
        obtain ⟨kq, x31_5, rfl, HA, HJ5, HO_398000, HO_399000, BK397, BK398, HB⟩ := hcut
        cases kq with
        | zero => exact absurd HA.out (by simp [portagelaw1_Writes.j1])
        | succ kj5 =>
          have H := HA.out
          clear HA
          simp only [portagelaw1_Writes.j1] at H
          by_cases c8 : x31_5 = true
          · subst c8
            have H1 : (if 0 ≤ x9_1 then (if x9_1 < (l0.length : Int) then (if ((rd_T58 l0 x9_1).f0) = 0 then ((bits_Writer_Put.f kj5 x398000_1 x398001_1 ((rd_T58 l0 x9_1).f1) ((rd_T58 l0 x9_1).f2)).bind fun bt401 => ((portagelaw0_Num.f bt401.1).bind fun t406 => ((portageref1_Writer_Put.f kj5 x399000_1 x399001_1 ((rd_T58 l0 x9_1).f1) ((rd_T58 l0 x9_1).f2)).bind fun bt407 => (if t406 = bt407.1 then ((bits_Writer_Len.f bt401.2.1 bt401.2.2).bind fun bt412 => (if bt412.1 = bt407.2.2 then (portagelaw1_Writes.l0 kj5 l0 a1 l2 (wrap64 (x9_1 + 1)) bt412.2.1 bt412.2.2 bt407.2.1 bt407.2.2) else (none))) else (none))))) else (if ((rd_T58 l0 x9_1).f0) = 1 then ((bits_Writer_Code.f kj5 x398000_1 x398001_1 ((rd_T58 l0 x9_1).f2) ((rd_T58 l0 x9_1).f1)).bind fun bt418 => ((portagelaw0_Num.f bt418.1).bind fun t423 => ((portageref1_Writer_Code.f kj5 x399000_1 x399001_1 ((rd_T58 l0 x9_1).f2) ((rd_T58 l0 x9_1).f1)).bind fun bt424 => (if t423 = bt424.1 then ((bits_Writer_Len.f bt418.2.1 bt418.2.2).bind fun bt429 => (if bt429.1 = bt424.2.2 then (portagelaw1_Writes.l0 kj5 l0 a1 l2 (wrap64 (x9_1 + 1)) bt429.2.1 bt429.2.2 bt424.2.1 bt424.2.2) else (none))) else (none))))) else ((bits_Writer_Align.f x398000_1 x398001_1).bind fun bt434 => ((portagelaw0_Num.f bt434.1).bind fun t439 => (if t439 = 0 then ((portageref1_Writer_Align.f kj5 x399000_1 x399001_1).bind fun bt440 => ((bits_Writer_Len.f bt434.2.1 bt434.2.2).bind fun bt444 => (if bt444.1 = bt440.2 then (portagelaw1_Writes.l0 kj5 l0 a1 l2 (wrap64 (x9_1 + 1)) bt444.2.1 bt444.2.2 bt440.1 bt440.2) else (none)))) else (none)))))) else (none)) else (none)) = some r := by rw [if_pos rfl] at H; exact H
            clear H
            have H := H1
            clear H1
            by_cases c9 : 0 ≤ x9_1
            · rw [if_pos c9] at H
              have c9b0 : decide (0 ≤ x9_1) = true := decide_eq_true c9
              clear c9
              by_cases c10 : x9_1 < (l0.length : Int)
              · rw [if_pos c10] at H
                have c10b0 : decide (x9_1 < (l0.length : Int)) = true := decide_eq_true c10
                clear c10
                by_cases c11 : ((rd_T58 l0 x9_1).f0) = 0
                · rw [if_pos c11] at H
                  have c11b0 : (((rd_T58 l0 x9_1).f0) == 0) = true := beq_iff_eq.mpr c11
                  have c11b1 : (((rd_T58 l0 x9_1).f0) != 0) = false := bne_eq_false_iff_eq.mpr c11
                  clear c11
                  replace H := Option.bind_eq_some_iff.mp H
                  obtain ⟨⟨t401, t402, t405⟩, A120, H⟩ := H
                  replace H : ((portagelaw0_Num.f t401).bind fun t406 => ((portageref1_Writer_Put.f kj5 x399000_1 x399001_1 ((rd_T58 l0 x9_1).f1) ((rd_T58 l0 x9_1).f2)).bind fun bt407 => (if t406 = bt407.1 then ((bits_Writer_Len.f t402 t405).bind fun bt412 => (if bt412.1 = bt407.2.2 then (portagelaw1_Writes.l0 kj5 l0 a1 l2 (wrap64 (x9_1 + 1)) bt412.2.1 bt412.2.2 bt407.2.1 bt407.2.2) else (none))) else (none)))) = some r := H
                  have A12 := Aside0.mk A120
                  clear A120
                  replace H := Option.bind_eq_some_iff.mp H
                  obtain ⟨t406, A130, H⟩ := H
                  replace H : ((portageref1_Writer_Put.f kj5 x399000_1 x399001_1 ((rd_T58 l0 x9_1).f1) ((rd_T58 l0 x9_1).f2)).bind fun bt407 => (if t406 = bt407.1 then ((bits_Writer_Len.f t402 t405).bind fun bt412 => (if bt412.1 = bt407.2.2 then (portagelaw1_Writes.l0 kj5 l0 a1 l2 (wrap64 (x9_1 + 1)) bt412.2.1 bt412.2.2 bt407.2.1 bt407.2.2) else (none))) else (none))) = some r := H
                  have A13 := Aside0.mk A130
                  clear A130
                  replace H := Option.bind_eq_some_iff.mp H
                  obtain ⟨⟨t407, t408, t411⟩, A140, H⟩ := H
                  replace H : (if t406 = t407 then ((bits_Writer_Len.f t402 t405).bind fun bt412 => (if bt412.1 = t411 then (portagelaw1_Writes.l0 kj5 l0 a1 l2 (wrap64 (x9_1 + 1)) bt412.2.1 bt412.2.2 t408 t411) else (none))) else (none)) = some r := H
                  have A14 := Aside0.mk A140
                  clear A140
                  by_cases c15 : t406 = t407
                  · rw [if_pos c15] at H
                    have c15b0 : (t406 == t407) = true := beq_iff_eq.mpr c15
                    have c15b1 : (t406 != t407) = false := bne_eq_false_iff_eq.mpr c15
                    clear c15
                    replace H := Option.bind_eq_some_iff.mp H
                    obtain ⟨⟨t412, t413, t416⟩, A160, H⟩ := H
                    replace H : (if t412 = t411 then (portagelaw1_Writes.l0 kj5 l0 a1 l2 (wrap64 (x9_1 + 1)) t413 t416 t408 t411) else (none)) = some r := H
                    have A16 := Aside0.mk A160
                    clear A160
                    by_cases c17 : t412 = t411
                    · rw [if_pos c17] at H
                      have c17b0 : (t412 == t411) = true := beq_iff_eq.mpr c17
                      have c17b1 : (t412 != t411) = false := bne_eq_false_iff_eq.mpr c17
                      clear c17
                      have H' := Aside0.mk H
                      clear H
                      have p399 : 0 ≤ (x9_1 : Int) := of_decide_eq_true (by first | (with_reducible assumption) | assumption)
                      have q399 : x9_1 < (l0.length : Int) := of_decide_eq_true (by first | (with_reducible assumption) | assumption)
                      obtain ⟨ad399, e399, hx399_0, hx399_1, hx399_2⟩ := at_T58 HR0.out x9_1 p399 q399
                      cases e399
                      replace hx399_0 := (HB.out.cell (World.block_lt_of_cell? w _ hx399_0)).trans hx399_0
                      replace hx399_1 := (HB.out.cell (World.block_lt_of_cell? w _ hx399_1)).trans hx399_1
                      replace hx399_2 := (HB.out.cell (World.block_lt_of_cell? w _ hx399_2)).trans hx399_2
                      replace p399 := eq_true p399
                      replace q399 := eq_true q399
                      try go_wp2_with (first | ((with_reducible refine gate_dst (N := 10) rfl ?_); refine box_event ?hg (N := 10) ?hd (cs := #[.int .i64 0, .int .i64 0, .int .i64 0]) (t := 58) ?hr ?_; (case hd => rfl); (case hg => rfl); (case hr => first | (go_simp; done) | (go_simp; rfl)); intro gb400 hg w18 hbox hb; have n0_ := Aside0.mk (Kd.R_below (by (with_reducible repeat (first | apply Kd.R_alloc | apply Kd.R_drewN | apply Kd.R_drew)); exact HO_398000.out) hb); have n1_ := Aside0.mk (Kd.R_below (by (with_reducible repeat (first | apply Kd.R_alloc | apply Kd.R_drewN | apply Kd.R_drew)); exact HO_399000.out) hb); have n2_ := Aside0.mk (blk_below (g := gb397) (o := .cells #[u398000, .int .i64 x398001_1] 103 (0, 0)) (by (with_reducible repeat (first | refine blk_drewN ?_ _ | refine blk_drew ?_ | refine blk_alloc ?_ _)); exact BK397.out) hb); have n3_ := Aside0.mk (blk_below (g := gb398) (o := .cells #[u399000, .int .i64 x399001_1] 56 (0, 0)) (by (with_reducible repeat (first | refine blk_drewN ?_ _ | refine blk_drew ?_ | refine blk_alloc ?_ _)); exact BK398.out) hb); have n4_ := Aside0.mk (below_step (by repeat (first | (with_reducible first | exact HB.out | apply below_alloc | apply pw_below_drewN | apply below_drew1 | refine below_set ?_ GE397.out | refine below_set ?_ GE398.out) | exact HB.out)) hb); have n5_ := Aside0.mk (hbox); have n6_ := Aside0.mk ((by rw [hg]; exact (below_size (by repeat (first | (with_reducible first | exact HB.out | apply below_alloc | apply pw_below_drewN | apply below_drew1 | refine below_set ?_ GE397.out | refine below_set ?_ GE398.out) | exact HB.out))) : w.heap.size ≤ gb400)); have n7_ := Aside0.mk ((by rw [hg]; exact (below_size (by repeat (first | (with_reducible first | exact HB.out | apply below_alloc | apply pw_below_drewN | apply below_drew1 | refine below_set ?_ GE397.out | refine below_set ?_ GE398.out) | exact HB.out))) : w.heap.size ≤ gb400)); have n8_ := Aside0.mk ((by rw [hg]; exact Nat.ne_of_lt (blk_lt (g := gb397) (o := .cells #[u398000, .int .i64 x398001_1] 103 (0, 0)) (by (with_reducible repeat (first | refine blk_drewN ?_ _ | refine blk_drew ?_ | refine blk_alloc ?_ _)); exact BK397.out)) : gb397 ≠ gb400)); have n9_ := Aside0.mk ((by rw [hg]; exact Nat.ne_of_gt (blk_lt (g := gb397) (o := .cells #[u398000, .int .i64 x398001_1] 103 (0, 0)) (by (with_reducible repeat (first | refine blk_drewN ?_ _ | refine blk_drew ?_ | refine blk_alloc ?_ _)); exact BK397.out)) : gb400 ≠ gb397)); have n10_ := Aside0.mk ((by rw [hg]; exact Nat.ne_of_lt (blk_lt (g := gb398) (o := .cells #[u399000, .int .i64 x399001_1] 56 (0, 0)) (by (with_reducible repeat (first | refine blk_drewN ?_ _ | refine blk_drew ?_ | refine blk_alloc ?_ _)); exact BK398.out)) : gb398 ≠ gb400)); have n11_ := Aside0.mk ((by rw [hg]; exact Nat.ne_of_gt (blk_lt (g := gb398) (o := .cells #[u399000, .int .i64 x399001_1] 56 (0, 0)) (by (with_reducible repeat (first | refine blk_drewN ?_ _ | refine blk_drew ?_ | refine blk_alloc ?_ _)); exact BK398.out)) : gb400 ≠ gb398)); clear HO_398000; clear HO_399000; clear BK397; clear BK398; clear HB; have HO_398000 := n0_; have HO_399000 := n1_; have BK397 := n2_; have BK398 := n3_; have HB := n4_; have BK400 := n5_; have GW400 := n6_; have GE400 := n7_; have NB397_400 := n8_; have NB400_397 := n9_; have NB398_400 := n10_; have NB400_398 := n11_; clear n0_ n1_ n2_ n3_ n4_ n5_ n6_ n7_ n8_ n9_ n10_ n11_; clear hb hbox hg; have hnb19 := NB400_397.out; have hnc19 := NB397_400.out; have hnb20 := NB400_398.out; have hnc20 := NB398_400.out; have hcz21_0 : w18.cell? ⟨gb400, 0, none⟩ = some (.int .i64 0) := (blk_cell BK400.out 0).trans rfl; have hcz21_1 : w18.cell? ⟨gb400, 1, none⟩ = some (.int .i64 0) := (blk_cell BK400.out 1).trans rfl; have hcz21_2 : w18.cell? ⟨gb400, 2, none⟩ = some (.int .i64 0) := (blk_cell BK400.out 2).trans rfl; have hfz21_0 := blk_frozen BK400.out 0; have hfz21_1 := blk_frozen BK400.out 1; have hfz21_2 := blk_frozen BK400.out 2))
                      have n0_ : Aside0 (Kd.R (Kd.int .u8) 5 (((w18.setCell ⟨gb400, 0, none⟩ (.int .i64 ((rd_T58 l0 x9_1).f0))).setCell ⟨gb400, 1, none⟩ (.int .i64 ((rd_T58 l0 x9_1).f1))).setCell ⟨gb400, 2, none⟩ (.int .i64 ((rd_T58 l0 x9_1).f2))) w.heap.size (fun k_ => some k_ ≠ (u399000 : Value).ownBlock) u398000 x398000_1) := ⟨by (with_reducible repeat (first | apply Kd.R_alloc | apply Kd.R_drewN | apply Kd.R_drew)); exact Kd.R_mono (Kd.R_far (p := ⟨gb400, 2, none⟩) (Kd.R_far (p := ⟨gb400, 1, none⟩) (Kd.R_far (p := ⟨gb400, 0, none⟩) (Kd.R_types HO_398000.out BK400.out (by decide)) (fun _ hk => hk.2) (.int .i64 ((rd_T58 l0 x9_1).f0))) (fun _ hk => hk.2) (.int .i64 ((rd_T58 l0 x9_1).f1))) (fun _ hk => hk.2) (.int .i64 ((rd_T58 l0 x9_1).f2))) (fun _ hk => hk.1)⟩
                      have n1_ : Aside0 (Kd.R (Kd.int .u8) 5 (((w18.setCell ⟨gb400, 0, none⟩ (.int .i64 ((rd_T58 l0 x9_1).f0))).setCell ⟨gb400, 1, none⟩ (.int .i64 ((rd_T58 l0 x9_1).f1))).setCell ⟨gb400, 2, none⟩ (.int .i64 ((rd_T58 l0 x9_1).f2))) w.heap.size (fun k_ => some k_ ≠ (u398000 : Value).ownBlock) u399000 x399000_1) := ⟨by (with_reducible repeat (first | apply Kd.R_alloc | apply Kd.R_drewN | apply Kd.R_drew)); exact Kd.R_mono (Kd.R_far (p := ⟨gb400, 2, none⟩) (Kd.R_far (p := ⟨gb400, 1, none⟩) (Kd.R_far (p := ⟨gb400, 0, none⟩) (Kd.R_types HO_399000.out BK400.out (by decide)) (fun _ hk => hk.2) (.int .i64 ((rd_T58 l0 x9_1).f0))) (fun _ hk => hk.2) (.int .i64 ((rd_T58 l0 x9_1).f1))) (fun _ hk => hk.2) (.int .i64 ((rd_T58 l0 x9_1).f2))) (fun _ hk => hk.1)⟩
                      have n2_ : Aside0 ((((w18.setCell ⟨gb400, 0, none⟩ (.int .i64 ((rd_T58 l0 x9_1).f0))).setCell ⟨gb400, 1, none⟩ (.int .i64 ((rd_T58 l0 x9_1).f1))).setCell ⟨gb400, 2, none⟩ (.int .i64 ((rd_T58 l0 x9_1).f2))).heap[gb397]? = some (.cells #[u398000, .int .i64 x398001_1] 103 (0, 0))) := ⟨by (with_reducible repeat (first | refine blk_drewN ?_ _ | refine blk_drew ?_ | refine blk_alloc ?_ _)); refine blk_far ?_ NB397_400.out _; (with_reducible repeat (first | refine blk_drewN ?_ _ | refine blk_drew ?_ | refine blk_alloc ?_ _)); refine blk_far ?_ NB397_400.out _; (with_reducible repeat (first | refine blk_drewN ?_ _ | refine blk_drew ?_ | refine blk_alloc ?_ _)); refine blk_far ?_ NB397_400.out _; (with_reducible repeat (first | refine blk_drewN ?_ _ | refine blk_drew ?_ | refine blk_alloc ?_ _)); exact BK397.out⟩
                      have n3_ : Aside0 ((((w18.setCell ⟨gb400, 0, none⟩ (.int .i64 ((rd_T58 l0 x9_1).f0))).setCell ⟨gb400, 1, none⟩ (.int .i64 ((rd_T58 l0 x9_1).f1))).setCell ⟨gb400, 2, none⟩ (.int .i64 ((rd_T58 l0 x9_1).f2))).heap[gb398]? = some (.cells #[u399000, .int .i64 x399001_1] 56 (0, 0))) := ⟨by (with_reducible repeat (first | refine blk_drewN ?_ _ | refine blk_drew ?_ | refine blk_alloc ?_ _)); refine blk_far ?_ NB398_400.out _; (with_reducible repeat (first | refine blk_drewN ?_ _ | refine blk_drew ?_ | refine blk_alloc ?_ _)); refine blk_far ?_ NB398_400.out _; (with_reducible repeat (first | refine blk_drewN ?_ _ | refine blk_drew ?_ | refine blk_alloc ?_ _)); refine blk_far ?_ NB398_400.out _; (with_reducible repeat (first | refine blk_drewN ?_ _ | refine blk_drew ?_ | refine blk_alloc ?_ _)); exact BK398.out⟩
                      have n4_ : Aside0 ((((w18.setCell ⟨gb400, 0, none⟩ (.int .i64 ((rd_T58 l0 x9_1).f0))).setCell ⟨gb400, 1, none⟩ (.int .i64 ((rd_T58 l0 x9_1).f1))).setCell ⟨gb400, 2, none⟩ (.int .i64 ((rd_T58 l0 x9_1).f2))).heap[gb400]? = some (.cells #[.int .i64 ((rd_T58 l0 x9_1).f0), .int .i64 ((rd_T58 l0 x9_1).f1), .int .i64 ((rd_T58 l0 x9_1).f2)] 58 (0, 0))) := ⟨by (with_reducible repeat (first | refine blk_drewN ?_ _ | refine blk_drew ?_ | refine blk_alloc ?_ _)); refine blk_put (cs := #[.int .i64 ((rd_T58 l0 x9_1).f0), .int .i64 ((rd_T58 l0 x9_1).f1), .int .i64 0]) ?_ 2 _ rfl; (with_reducible repeat (first | refine blk_drewN ?_ _ | refine blk_drew ?_ | refine blk_alloc ?_ _)); refine blk_put (cs := #[.int .i64 ((rd_T58 l0 x9_1).f0), .int .i64 0, .int .i64 0]) ?_ 1 _ rfl; (with_reducible repeat (first | refine blk_drewN ?_ _ | refine blk_drew ?_ | refine blk_alloc ?_ _)); refine blk_put (cs := #[.int .i64 0, .int .i64 0, .int .i64 0]) ?_ 0 _ rfl; (with_reducible repeat (first | refine blk_drewN ?_ _ | refine blk_drew ?_ | refine blk_alloc ?_ _)); exact BK400.out⟩
                      have n5_ : Aside0 (Below w.heap.size w (((w18.setCell ⟨gb400, 0, none⟩ (.int .i64 ((rd_T58 l0 x9_1).f0))).setCell ⟨gb400, 1, none⟩ (.int .i64 ((rd_T58 l0 x9_1).f1))).setCell ⟨gb400, 2, none⟩ (.int .i64 ((rd_T58 l0 x9_1).f2)))) := ⟨by repeat (first | (with_reducible first | exact HB.out | apply below_alloc | apply pw_below_drewN | apply below_drew1 | refine below_set ?_ GE397.out | refine below_set ?_ GE398.out | refine below_set ?_ GE400.out) | exact HB.out)⟩
                      (try clear HO_398000)
                      (try clear HO_399000)
                      (try clear BK397)
                      (try clear BK398)
                      (try clear BK400)
                      (try clear HB)
                      generalize (((w18.setCell ⟨gb400, 0, none⟩ (.int .i64 ((rd_T58 l0 x9_1).f0))).setCell ⟨gb400, 1, none⟩ (.int .i64 ((rd_T58 l0 x9_1).f1))).setCell ⟨gb400, 2, none⟩ (.int .i64 ((rd_T58 l0 x9_1).f2))) = w22 at n0_ n1_ n2_ n3_ n4_ n5_ ⊢
                      have HO_398000 := n0_
                      have HO_399000 := n1_
                      have BK397 := n2_
                      have BK398 := n3_
                      have BK400 := n4_
                      have HB := n5_
                      clear n0_ n1_ n2_ n3_ n4_ n5_
                      have n0_ := Aside0.mk (Kd.R_drew HO_398000.out)
                      have n1_ := Aside0.mk (Kd.R_drew HO_399000.out)
                      have n2_ := Aside0.mk (blk_drew BK397.out)
                      have n3_ := Aside0.mk (blk_drew BK398.out)
                      have n4_ := Aside0.mk (blk_drew BK400.out)
                      have n5_ := Aside0.mk (below_drew1 HB.out)
                      clear HO_398000
                      clear HO_399000
                      clear BK397
                      clear BK398
                      clear BK400
                      clear HB
                      have HO_398000 := n0_
                      have HO_399000 := n1_
                      have BK397 := n2_
                      have BK398 := n3_
                      have BK400 := n4_
                      have HB := n5_
                      clear n0_ n1_ n2_ n3_ n4_ n5_
                      refine start_ (n := 14) (S := fun w' => w'.cell? ⟨gb400, 0, none⟩ = some (.int .i64 ((rd_T58 l0 x9_1).f0)) ∧ w'.cell? ⟨gb400, 1, none⟩ = some (.int .i64 ((rd_T58 l0 x9_1).f1)) ∧ w'.cell? ⟨gb400, 2, none⟩ = some (.int .i64 ((rd_T58 l0 x9_1).f2))) (ds := []) #[false, false, false, false, false, false, false, false, false, false, false, false, false, false] (by kernel_rfl) rfl rfl ⟨(blk_cell BK400.out 0).trans rfl, (blk_cell BK400.out 1).trans rfl, (blk_cell BK400.out 2).trans rfl⟩ (fun hHeld => ?_); refine with_tabW portagelaw1_Writes.tab14 portagelaw1_Writes.bits14 (fun HT_ HW_ => ?_)
                      generalize w22.drew = w23 at HO_398000 HO_399000 BK397 BK398 BK400 HB hHeld ⊢
                      refine pure_ (i := 0) (N := some 48) (v := ?_) (a' := ?_) #[true, false, false, false, false, false, false, false, false, false, false, false, false, false] rfl rfl (any_of HT_.out (by kernel_rfl)) (fun _ _ _ h => h) (Or.inl ⟨by rfl, ?_⟩) ?_ ?_
                      rotate_left
                      · intro w'
                        go_simp
                        with_reducible rfl
                      rotate_left
                      · simp only [Act.put, List.setIfInBounds_toArray, List.set_cons_zero, List.set_cons_succ, i64_w, i32_w, IntKind.wrap_u8, IntKind.wrap_u32]
                        rfl
                      refine pure_ (i := 1) (N := some 49) (v := ?_) (a' := ?_) #[true, true, false, false, false, false, false, false, false, false, false, false, false, false] rfl rfl (any_of HT_.out (by kernel_rfl)) (fun _ _ _ h => h) (Or.inl ⟨by rfl, ?_⟩) ?_ ?_
                      rotate_left
                      · intro w'
                        go_simp
                        with_reducible rfl
                      rotate_left
                      · simp only [Act.put, List.setIfInBounds_toArray, List.set_cons_zero, List.set_cons_succ, i64_w, i32_w, IntKind.wrap_u8, IntKind.wrap_u32]
                        rfl
                      refine pure_ (i := 3) (N := some 51) (v := ?_) (a' := ?_) #[true, true, false, true, false, false, false, false, false, false, false, false, false, false] rfl rfl (any_of HT_.out (by kernel_rfl)) (fun _ _ _ h => h) (Or.inl ⟨by rfl, ?_⟩) ?_ ?_
                      rotate_left
                      · intro w'
                        go_simp
                        with_reducible rfl
                      rotate_left
                      · simp only [Act.put, List.setIfInBounds_toArray, List.set_cons_zero, List.set_cons_succ, i64_w, i32_w, IntKind.wrap_u8, IntKind.wrap_u32]
                        rfl
                      refine pure_ (i := 7) (N := some 55) (v := ?_) (a' := ?_) #[true, true, false, true, false, false, false, true, false, false, false, false, false, false] rfl rfl (any_of HT_.out (by kernel_rfl)) (fun _ _ _ h => h) (Or.inl ⟨by rfl, ?_⟩) ?_ ?_
                      rotate_left
                      · intro w'
                        go_simp
                        with_reducible rfl
                      rotate_left
                      · simp only [Act.put, List.setIfInBounds_toArray, List.set_cons_zero, List.set_cons_succ, i64_w, i32_w, IntKind.wrap_u8, IntKind.wrap_u32]
                        rfl
                      refine pure_ (i := 8) (N := some 56) (v := ?_) (a' := ?_) #[true, true, false, true, false, false, false, true, true, false, false, false, false, false] rfl rfl (any_of HT_.out (by kernel_rfl)) (fun _ _ _ h => h) (Or.inl ⟨by rfl, ?_⟩) ?_ ?_
                      rotate_left
                      · intro w'
                        go_simp
                        with_reducible rfl
                      rotate_left
                      · simp only [Act.put, List.setIfInBounds_toArray, List.set_cons_zero, List.set_cons_succ, i64_w, i32_w, IntKind.wrap_u8, IntKind.wrap_u32]
                        rfl
                      refine pure_ (i := 10) (N := some 58) (v := ?_) (a' := ?_) #[true, true, false, true, false, false, false, true, true, false, true, false, false, false] rfl rfl (any_of HT_.out (by kernel_rfl)) (fun _ _ _ h => h) (Or.inl ⟨by rfl, ?_⟩) ?_ ?_
                      rotate_left
                      · intro w'
                        go_simp
                        with_reducible rfl
                      rotate_left
                      · simp only [Act.put, List.setIfInBounds_toArray, List.set_cons_zero, List.set_cons_succ, i64_w, i32_w, IntKind.wrap_u8, IntKind.wrap_u32]
                        rfl
                      refine take_ (i := 2) (N := some 50) (v := ?_) (a' := ?_) #[true, true, true, true, false, false, false, true, true, false, true, false, false, false] rfl rfl (take_ofW HT_.out HW_.out (by kernel_rfl)) (fun _ _ _ h => h) (Or.inl ⟨by rfl, ?_⟩) hHeld ?_ ?_
                      rotate_left
                      · rintro w' ⟨s0, s1, s2⟩
                        go_simp
                        with_reducible rfl
                      rotate_left
                      · simp only [Act.put, List.setIfInBounds_toArray, List.set_cons_zero, List.set_cons_succ, i64_w, i32_w, IntKind.wrap_u8, IntKind.wrap_u32]
                        rfl
                      refine take_ (i := 4) (N := some 52) (v := ?_) (a' := ?_) #[true, true, true, true, true, false, false, true, true, false, true, false, false, false] rfl rfl (take_ofW HT_.out HW_.out (by kernel_rfl)) (fun _ _ _ h => h) (Or.inl ⟨by rfl, ?_⟩) hHeld ?_ ?_
                      rotate_left
                      · rintro w' ⟨s0, s1, s2⟩
                        go_simp
                        with_reducible rfl
                      rotate_left
                      · simp only [Act.put, List.setIfInBounds_toArray, List.set_cons_zero, List.set_cons_succ, i64_w, i32_w, IntKind.wrap_u8, IntKind.wrap_u32]
                        rfl
                      refine take_ (i := 9) (N := some 57) (v := ?_) (a' := ?_) #[true, true, true, true, true, false, false, true, true, true, true, false, false, false] rfl rfl (take_ofW HT_.out HW_.out (by kernel_rfl)) (fun _ _ _ h => h) (Or.inl ⟨by rfl, ?_⟩) hHeld ?_ ?_
                      rotate_left
                      · rintro w' ⟨s0, s1, s2⟩
                        go_simp
                        with_reducible rfl
                      rotate_left
                      · simp only [Act.put, List.setIfInBounds_toArray, List.set_cons_zero, List.set_cons_succ, i64_w, i32_w, IntKind.wrap_u8, IntKind.wrap_u32]
                        rfl
                      refine take_ (i := 11) (N := some 59) (v := ?_) (a' := ?_) #[true, true, true, true, true, false, false, true, true, true, true, true, false, false] rfl rfl (take_ofW HT_.out HW_.out (by kernel_rfl)) (fun _ _ _ h => h) (Or.inl ⟨by rfl, ?_⟩) hHeld ?_ ?_
                      rotate_left
                      · rintro w' ⟨s0, s1, s2⟩
                        go_simp
                        with_reducible rfl
                      rotate_left
                      · simp only [Act.put, List.setIfInBounds_toArray, List.set_cons_zero, List.set_cons_succ, i64_w, i32_w, IntKind.wrap_u8, IntKind.wrap_u32]
                        rfl
                      refine one_ (i := 5) (N := some 53) #[true, true, true, true, true, true, false, true, true, true, true, true, false, false] rfl rfl (one_of HT_.out (by kernel_rfl)) (by decide) (fun K hK => ?_)
                      refine goes_ Try.func36 (by kernel_rfl) rfl #[.pointer (some ⟨gb397, 0, none⟩), .int .i64 ((rd_T58 l0 x9_1).f1), .int .i64 ((rd_T58 l0 x9_1).f2)] (by rfl) rfl rfl (by (try simp only [List.map_toArray, List.map_cons, List.map_nil]); first | done | rfl | (simp only [List.length_drop, List.length_take]; rfl)) ?_
                      with_reducible refine (bits_Writer_Put.calls kj5 (fun k_ => some k_ = (u398000 : Value).ownBlock ∨ k_ = gb397) gb397 x398000_1 x398001_1 ((rd_T58 l0 x9_1).f1) ((rd_T58 l0 x9_1).f2) t401 t402 t405 w _ ?side1 ?side2 A12.out).mono ?_
                      (case side1 => repeat (first | (with_reducible first | exact HB.out | apply below_alloc | apply pw_below_drewN | apply below_drew1 | refine below_set ?_ GE397.out | refine below_set ?_ GE398.out | refine below_set ?_ GE400.out) | exact HB.out))
                      (case side2 => exact ⟨_, (by (with_reducible repeat (first | refine blk_drewN ?_ _ | refine blk_drew ?_ | refine blk_alloc ?_ _)); exact BK397.out), GE397.out, .inr rfl, (Kd.R_mono (Kd.R_tight2 rfl (Kd.R_types HO_398000.out (by (with_reducible repeat (first | refine blk_drewN ?_ _ | refine blk_drew ?_ | refine blk_alloc ?_ _)); exact BK397.out) (by decide))) (fun k_ hk => ⟨.inl hk.1, hk.2.2⟩))⟩)
                      rintro e w24 ⟨rfl, ⟨v403, hbx_, _, _, hox_⟩, hb, hkp⟩
                      refine ⟨_, rfl, ?_⟩
                      have ho0 := Kd.R_mono (ok' := fun k_ => some k_ = (u398000 : Value).ownBlock ∨ w23.heap.size ≤ k_) hox_ (fun k_ h_ => Or.elim h_.1 (fun h1_ => Or.elim h1_ Or.inl (fun e_ => absurd e_ h_.2)) Or.inr)
                      have n0_ := Aside0.mk (Kd.R_mono (ok' := fun k_ => some k_ ≠ (v403 : Value).ownBlock) (Kd.R_keptB ((Kd.R_types HO_399000.out (by (with_reducible repeat (first | refine blk_drewN ?_ _ | refine blk_drew ?_ | refine blk_alloc ?_ _)); exact BK397.out) (by decide))) hkp (fun k_ hk_ hs_ => Or.elim hs_ (fun hs_ => (hk_.1) hs_) (fun e_ => (hk_.2) e_))) (fun k_ hk_ => fun e_ => Or.elim (ho0.1 k_ e_.symm) (fun hs_ => hk_.2.1 (Or.inl hs_)) (fun hn_ => Nat.not_le.2 hk_.2.2 hn_)))
                      have n1_ := Aside0.mk (hbx_)
                      have n2_ := Aside0.mk (blk_kept (by (with_reducible repeat (first | refine blk_drewN ?_ _ | refine blk_drew ?_ | refine blk_alloc ?_ _)); exact BK398.out) hkp (fun hs_ => Or.elim hs_ (fun hs_ => (fun e_ => (Kd.R_ne HO_398000.out BK398.out (by decide)) e_) hs_) (fun e_ => NB398_397.out e_)))
                      have n3_ := Aside0.mk (blk_kept (by (with_reducible repeat (first | refine blk_drewN ?_ _ | refine blk_drew ?_ | refine blk_alloc ?_ _)); exact BK400.out) hkp (fun hs_ => Or.elim hs_ (fun hs_ => (fun e_ => (Kd.R_ne HO_398000.out BK400.out (by decide)) e_) hs_) (fun e_ => NB400_397.out e_)))
                      have n4_ := Aside0.mk (Kd.R_mono (ok' := fun k_ => some k_ ≠ (u399000 : Value).ownBlock) ho0 (fun k_ hk_ => Or.elim hk_ (fun hs_ => fun e_ => ((((Kd.R_types HO_399000.out (by (with_reducible repeat (first | refine blk_drewN ?_ _ | refine blk_drew ?_ | refine blk_alloc ?_ _)); exact BK397.out) (by decide))).1 k_ e_.symm).1) hs_) (fun hn_ => (Kd.fresh' (Kd.R_lt (by (with_reducible repeat (first | apply Kd.R_alloc | apply Kd.R_drewN | apply Kd.R_drew)); exact HO_399000.out)) k_ hn_))))
                      have n5_ := Aside0.mk (hb)
                      clear HO_399000
                      clear BK397
                      clear BK398
                      clear BK400
                      clear HB
                      clear HO_398000
                      have HO_399000 := n0_
                      have BK397 := n1_
                      have BK398 := n2_
                      have BK400 := n3_
                      have HO404 := n4_
                      have HB := n5_
                      clear n0_ n1_ n2_ n3_ n4_ n5_
                      (try clear hb)
                      (try clear hkp)
                      (try clear hbx_)
                      (try clear hox_)
                      (try clear ho0)
                      refine hK.out _ _ ⟨(blk_cell BK400.out 0).trans rfl, (blk_cell BK400.out 1).trans rfl, (blk_cell BK400.out 2).trans rfl⟩ (fun hHeld => ?_)
                      clear hK K
                      refine norm_ (a' := ?_) ?_ ?_
                      rotate_left
                      · show Act.put _ (some 53) _ = _
                        simp only [Act.put, List.setIfInBounds_toArray, List.set_cons_zero, List.set_cons_succ, i64_w, i32_w, IntKind.wrap_u8, IntKind.wrap_u32]
                        rfl
                      refine one_ (i := 6) (N := some 54) #[true, true, true, true, true, true, true, true, true, true, true, true, false, false] rfl rfl (one_of HT_.out (by kernel_rfl)) (by decide) (fun K hK => ?_)
                      refine goes_ Try.func29 (by kernel_rfl) rfl #[.int .i64 t401] (by rfl) rfl rfl (by (try simp only [List.map_toArray, List.map_cons, List.map_nil]); first | done | rfl | (simp only [List.length_drop, List.length_take]; rfl)) ?_
                      with_reducible refine (portagelaw0_Num.calls t401 t406 _ A13.out).mono ?_
                      rintro e w' ⟨rfl, ⟨nd, rfl⟩⟩
                      refine ⟨_, rfl, ?_⟩
                      refine hK.out _ _ ⟨(blk_cell BK400.out 0).trans rfl, (blk_cell BK400.out 1).trans rfl, (blk_cell BK400.out 2).trans rfl⟩ (fun hHeld => ?_)
                      clear hK K
                      refine norm_ (a' := ?_) ?_ ?_
                      rotate_left
                      · show Act.put _ (some 54) _ = _
                        simp only [Act.put, List.setIfInBounds_toArray, List.set_cons_zero, List.set_cons_succ, i64_w, i32_w, IntKind.wrap_u8, IntKind.wrap_u32]
                        rfl
                      refine one_ (i := 12) (N := some 60) #[true, true, true, true, true, true, true, true, true, true, true, true, true, false] rfl rfl (one_of HT_.out (by kernel_rfl)) (by decide) (fun K hK => ?_)
                      refine goes_ Try.func37 (by kernel_rfl) rfl #[.pointer (some ⟨gb398, 0, none⟩), .int .i64 ((rd_T58 l0 x9_1).f1), .int .i64 ((rd_T58 l0 x9_1).f2)] (by rfl) rfl rfl (by (try simp only [List.map_toArray, List.map_cons, List.map_nil]); first | done | rfl | (simp only [List.length_drop, List.length_take]; rfl)) ?_
                      with_reducible refine (portageref1_Writer_Put.calls kj5 (fun k_ => some k_ = (u399000 : Value).ownBlock ∨ k_ = gb398) gb398 x399000_1 x399001_1 ((rd_T58 l0 x9_1).f1) ((rd_T58 l0 x9_1).f2) t407 t408 t411 w _ ?side1 ?side2 A14.out).mono ?_
                      (case side1 => repeat (first | (with_reducible first | exact HB.out | apply below_alloc | apply pw_below_drewN | apply below_drew1 | refine below_set ?_ GE397.out | refine below_set ?_ GE398.out | refine below_set ?_ GE400.out) | exact HB.out))
                      (case side2 => exact ⟨_, (by (with_reducible repeat (first | refine blk_drewN ?_ _ | refine blk_drew ?_ | refine blk_alloc ?_ _)); exact BK398.out), GE398.out, .inr rfl, (Kd.R_mono (Kd.R_tight2 rfl (Kd.R_types HO_399000.out (by (with_reducible repeat (first | refine blk_drewN ?_ _ | refine blk_drew ?_ | refine blk_alloc ?_ _)); exact BK398.out) (by decide))) (fun k_ hk => ⟨.inl hk.1, hk.2.2⟩))⟩)
                      rintro e w25 ⟨rfl, ⟨v409, hbx_, _, _, hox_⟩, hb, hkp⟩
                      refine ⟨_, rfl, ?_⟩
                      have ho0 := Kd.R_mono (ok' := fun k_ => some k_ = (u399000 : Value).ownBlock ∨ w24.heap.size ≤ k_) hox_ (fun k_ h_ => Or.elim h_.1 (fun h1_ => Or.elim h1_ Or.inl (fun e_ => absurd e_ h_.2)) Or.inr)
                      have n0_ := Aside0.mk (blk_kept (by (with_reducible repeat (first | refine blk_drewN ?_ _ | refine blk_drew ?_ | refine blk_alloc ?_ _)); exact BK397.out) hkp (fun hs_ => Or.elim hs_ (fun hs_ => (fun e_ => (Kd.R_ne HO_399000.out BK397.out (by decide)) e_) hs_) (fun e_ => NB397_398.out e_)))
                      have n1_ := Aside0.mk (hbx_)
                      have n2_ := Aside0.mk (blk_kept (by (with_reducible repeat (first | refine blk_drewN ?_ _ | refine blk_drew ?_ | refine blk_alloc ?_ _)); exact BK400.out) hkp (fun hs_ => Or.elim hs_ (fun hs_ => (fun e_ => (Kd.R_ne HO_399000.out BK400.out (by decide)) e_) hs_) (fun e_ => NB400_398.out e_)))
                      have n3_ := Aside0.mk (Kd.R_mono (ok' := fun k_ => some k_ ≠ (v409 : Value).ownBlock) (Kd.R_keptB ((Kd.R_types HO404.out (by (with_reducible repeat (first | refine blk_drewN ?_ _ | refine blk_drew ?_ | refine blk_alloc ?_ _)); exact BK398.out) (by decide))) hkp (fun k_ hk_ hs_ => Or.elim hs_ (fun hs_ => (hk_.1) hs_) (fun e_ => (hk_.2) e_))) (fun k_ hk_ => fun e_ => Or.elim (ho0.1 k_ e_.symm) (fun hs_ => hk_.2.1 (Or.inl hs_)) (fun hn_ => Nat.not_le.2 hk_.2.2 hn_)))
                      have n4_ := Aside0.mk (Kd.R_mono (ok' := fun k_ => some k_ ≠ (v403 : Value).ownBlock) ho0 (fun k_ hk_ => Or.elim hk_ (fun hs_ => fun e_ => ((((Kd.R_types HO404.out (by (with_reducible repeat (first | refine blk_drewN ?_ _ | refine blk_drew ?_ | refine blk_alloc ?_ _)); exact BK398.out) (by decide))).1 k_ e_.symm).1) hs_) (fun hn_ => (Kd.fresh' (Kd.R_lt (by (with_reducible repeat (first | apply Kd.R_alloc | apply Kd.R_drewN | apply Kd.R_drew)); exact HO404.out)) k_ hn_))))
                      have n5_ := Aside0.mk (hb)
                      clear BK397
                      clear BK398
                      clear BK400
                      clear HO404
                      clear HB
                      clear HO_399000
                      have BK397 := n0_
                      have BK398 := n1_
                      have BK400 := n2_
                      have HO404 := n3_
                      have HO410 := n4_
                      have HB := n5_
                      clear n0_ n1_ n2_ n3_ n4_ n5_
                      (try clear hb)
                      (try clear hkp)
                      (try clear hbx_)
                      (try clear hox_)
                      (try clear ho0)
                      refine hK.out _ _ ⟨(blk_cell BK400.out 0).trans rfl, (blk_cell BK400.out 1).trans rfl, (blk_cell BK400.out 2).trans rfl⟩ (fun hHeld => ?_)
                      clear hK K
                      refine norm_ (a' := ?_) ?_ ?_
                      rotate_left
                      · show Act.put _ (some 60) _ = _
                        simp only [Act.put, List.setIfInBounds_toArray, List.set_cons_zero, List.set_cons_succ, i64_w, i32_w, IntKind.wrap_u8, IntKind.wrap_u32]
                        rfl
                      refine pure_ (i := 13) (N := some 61) (v := ?_) (a' := ?_) #[true, true, true, true, true, true, true, true, true, true, true, true, true, true] rfl rfl (any_of HT_.out (by kernel_rfl)) (fun _ _ _ h => h) (Or.inl ⟨by rfl, ?_⟩) ?_ ?_
                      rotate_left
                      · intro w'
                        go_simp
                        with_reducible rfl
                      rotate_left
                      · simp only [Act.put, List.setIfInBounds_toArray, List.set_cons_zero, List.set_cons_succ, i64_w, i32_w, IntKind.wrap_u8, IntKind.wrap_u32]
                        rfl
                      refine done_ (done_of HT_.out (by kernel_rfl)) ?_
                      try go_wp2
                      have n0_ := Aside0.mk (Kd.R_drew HO404.out)
                      have n1_ := Aside0.mk (Kd.R_drew HO410.out)
                      have n2_ := Aside0.mk (blk_drew BK397.out)
                      have n3_ := Aside0.mk (blk_drew BK398.out)
                      have n4_ := Aside0.mk (blk_drew BK400.out)
                      have n5_ := Aside0.mk (below_drew1 HB.out)
                      clear HO404
                      clear HO410
                      clear BK397
                      clear BK398
                      clear BK400
                      clear HB
                      have HO404 := n0_
                      have HO410 := n1_
                      have BK397 := n2_
                      have BK398 := n3_
                      have BK400 := n4_
                      have HB := n5_
                      clear n0_ n1_ n2_ n3_ n4_ n5_
                      refine start_ (n := 7) (S := fun w' => w'.cell? ⟨gb398, 0, none⟩ = some (v409) ∧ w'.cell? ⟨gb398, 1, none⟩ = some (.int .i64 t411)) (ds := []) #[false, false, false, false, false, false, false] (by kernel_rfl) rfl rfl ⟨(blk_cell BK398.out 0).trans rfl, (blk_cell BK398.out 1).trans rfl⟩ (fun hHeld => ?_)
                      generalize w25.drew = w26 at HO404 HO410 BK397 BK398 BK400 HB hHeld ⊢
                      refine pure_ (i := 0) (N := some 77) (v := ?_) (a' := ?_) #[true, false, false, false, false, false, false] rfl rfl (by kernel_rfl) (fun _ _ _ h => h) (Or.inl ⟨by rfl, ?_⟩) ?_ ?_
                      rotate_left
                      · intro w'
                        go_simp
                        with_reducible rfl
                      rotate_left
                      · simp only [Act.put, List.setIfInBounds_toArray, List.set_cons_zero, List.set_cons_succ, i64_w, i32_w, IntKind.wrap_u8, IntKind.wrap_u32]
                        rfl
                      refine pure_ (i := 2) (N := some 79) (v := ?_) (a' := ?_) #[true, false, true, false, false, false, false] rfl rfl (by kernel_rfl) (fun _ _ _ h => h) (Or.inl ⟨by rfl, ?_⟩) ?_ ?_
                      rotate_left
                      · intro w'
                        go_simp
                        with_reducible rfl
                      rotate_left
                      · simp only [Act.put, List.setIfInBounds_toArray, List.set_cons_zero, List.set_cons_succ, i64_w, i32_w, IntKind.wrap_u8, IntKind.wrap_u32]
                        rfl
                      refine pure_ (i := 3) (N := some 80) (v := ?_) (a' := ?_) #[true, false, true, true, false, false, false] rfl rfl (by kernel_rfl) (fun _ _ _ h => h) (Or.inl ⟨by rfl, ?_⟩) ?_ ?_
                      rotate_left
                      · intro w'
                        go_simp
                        with_reducible rfl
                      rotate_left
                      · simp only [Act.put, List.setIfInBounds_toArray, List.set_cons_zero, List.set_cons_succ, i64_w, i32_w, IntKind.wrap_u8, IntKind.wrap_u32]
                        rfl
                      refine pure_ (i := 4) (N := some 81) (v := ?_) (a' := ?_) #[true, false, true, true, true, false, false] rfl rfl (by kernel_rfl) (fun _ _ _ h => h) (Or.inl ⟨by rfl, ?_⟩) ?_ ?_
                      rotate_left
                      · intro w'
                        go_simp
                        with_reducible rfl
                      rotate_left
                      · simp only [Act.put, List.setIfInBounds_toArray, List.set_cons_zero, List.set_cons_succ, i64_w, i32_w, IntKind.wrap_u8, IntKind.wrap_u32]
                        rfl
                      refine take_ (i := 5) (N := some 82) (v := ?_) (a' := ?_) #[true, false, true, true, true, true, false] rfl rfl (by kernel_rfl) (fun _ _ _ h => h) (Or.inl ⟨by rfl, ?_⟩) hHeld ?_ ?_
                      rotate_left
                      · rintro w' ⟨s0, s1⟩
                        go_simp
                        with_reducible rfl
                      rotate_left
                      · simp only [Act.put, List.setIfInBounds_toArray, List.set_cons_zero, List.set_cons_succ, i64_w, i32_w, IntKind.wrap_u8, IntKind.wrap_u32]
                        rfl
                      refine one_ (i := 1) (N := some 78) #[true, true, true, true, true, true, false] rfl rfl (by kernel_rfl) (by decide) (fun K hK => ?_)
                      refine goes_ Try.func42 (by kernel_rfl) rfl #[.pointer (some ⟨gb397, 0, none⟩)] (by rfl) rfl rfl (by (try simp only [List.map_toArray, List.map_cons, List.map_nil]); first | done | rfl | (simp only [List.length_drop, List.length_take]; rfl)) ?_
                      with_reducible refine (bits_Writer_Len.calls (fun k_ => some k_ = (v403 : Value).ownBlock ∨ k_ = gb397) gb397 t402 t405 t412 t413 t416 w _ ?side1 ?side2 A16.out).mono ?_
                      (case side1 => repeat (first | (with_reducible first | exact HB.out | apply below_alloc | apply pw_below_drewN | apply below_drew1 | refine below_set ?_ GE397.out | refine below_set ?_ GE398.out | refine below_set ?_ GE400.out) | exact HB.out))
                      (case side2 => exact ⟨_, (by (with_reducible repeat (first | refine blk_drewN ?_ _ | refine blk_drew ?_ | refine blk_alloc ?_ _)); exact BK397.out), GE397.out, .inr rfl, (Kd.R_mono (Kd.R_tight2 rfl (Kd.R_types HO404.out (by (with_reducible repeat (first | refine blk_drewN ?_ _ | refine blk_drew ?_ | refine blk_alloc ?_ _)); exact BK397.out) (by decide))) (fun k_ hk => ⟨.inl hk.1, hk.2.2⟩))⟩)
                      rintro e w27 ⟨rfl, ⟨v414, hbx_, _, _, hox_⟩, hb, hkp⟩
                      refine ⟨_, rfl, ?_⟩
                      have ho0 := Kd.R_mono (ok' := fun k_ => some k_ = (v403 : Value).ownBlock ∨ w26.heap.size ≤ k_) hox_ (fun k_ h_ => Or.elim h_.1 (fun h1_ => Or.elim h1_ Or.inl (fun e_ => absurd e_ h_.2)) Or.inr)
                      have n0_ := Aside0.mk (hbx_)
                      have n1_ := Aside0.mk (blk_kept (by (with_reducible repeat (first | refine blk_drewN ?_ _ | refine blk_drew ?_ | refine blk_alloc ?_ _)); exact BK398.out) hkp (fun hs_ => Or.elim hs_ (fun hs_ => (fun e_ => (Kd.R_ne HO404.out BK398.out (by decide)) e_) hs_) (fun e_ => NB398_397.out e_)))
                      have n2_ := Aside0.mk (blk_kept (by (with_reducible repeat (first | refine blk_drewN ?_ _ | refine blk_drew ?_ | refine blk_alloc ?_ _)); exact BK400.out) hkp (fun hs_ => Or.elim hs_ (fun hs_ => (fun e_ => (Kd.R_ne HO404.out BK400.out (by decide)) e_) hs_) (fun e_ => NB400_397.out e_)))
                      have n3_ := Aside0.mk (Kd.R_mono (ok' := fun k_ => some k_ ≠ (v414 : Value).ownBlock) (Kd.R_keptB ((Kd.R_types HO410.out (by (with_reducible repeat (first | refine blk_drewN ?_ _ | refine blk_drew ?_ | refine blk_alloc ?_ _)); exact BK397.out) (by decide))) hkp (fun k_ hk_ hs_ => Or.elim hs_ (fun hs_ => (hk_.1) hs_) (fun e_ => (hk_.2) e_))) (fun k_ hk_ => fun e_ => Or.elim (ho0.1 k_ e_.symm) (fun hs_ => hk_.2.1 (Or.inl hs_)) (fun hn_ => Nat.not_le.2 hk_.2.2 hn_)))
                      have n4_ := Aside0.mk (Kd.R_mono (ok' := fun k_ => some k_ ≠ (v409 : Value).ownBlock) ho0 (fun k_ hk_ => Or.elim hk_ (fun hs_ => fun e_ => ((((Kd.R_types HO410.out (by (with_reducible repeat (first | refine blk_drewN ?_ _ | refine blk_drew ?_ | refine blk_alloc ?_ _)); exact BK397.out) (by decide))).1 k_ e_.symm).1) hs_) (fun hn_ => (Kd.fresh' (Kd.R_lt (by (with_reducible repeat (first | apply Kd.R_alloc | apply Kd.R_drewN | apply Kd.R_drew)); exact HO410.out)) k_ hn_))))
                      have n5_ := Aside0.mk (hb)
                      clear BK397
                      clear BK398
                      clear BK400
                      clear HO410
                      clear HB
                      clear HO404
                      have BK397 := n0_
                      have BK398 := n1_
                      have BK400 := n2_
                      have HO410 := n3_
                      have HO415 := n4_
                      have HB := n5_
                      clear n0_ n1_ n2_ n3_ n4_ n5_
                      (try clear hb)
                      (try clear hkp)
                      (try clear hbx_)
                      (try clear hox_)
                      (try clear ho0)
                      refine hK.out _ _ ⟨(blk_cell BK398.out 0).trans rfl, (blk_cell BK398.out 1).trans rfl⟩ (fun hHeld => ?_)
                      clear hK K
                      refine norm_ (a' := ?_) ?_ ?_
                      rotate_left
                      · show Act.put _ (some 78) _ = _
                        simp only [Act.put, List.setIfInBounds_toArray, List.set_cons_zero, List.set_cons_succ, i64_w, i32_w, IntKind.wrap_u8, IntKind.wrap_u32]
                        rfl
                      refine pure_ (i := 6) (N := some 83) (v := ?_) (a' := ?_) #[true, true, true, true, true, true, true] rfl rfl (by kernel_rfl) (fun _ _ _ h => h) (Or.inl ⟨by rfl, ?_⟩) ?_ ?_
                      rotate_left
                      · intro w'
                        go_simp
                        with_reducible rfl
                      rotate_left
                      · simp only [Act.put, List.setIfInBounds_toArray, List.set_cons_zero, List.set_cons_succ, i64_w, i32_w, IntKind.wrap_u8, IntKind.wrap_u32]
                        rfl
                      refine done_ (by kernel_rfl) ?_
                      try go_wp2
                      go_roundg kj5
                      case measure => have := HK1.out; have := HJ5.out; omega
                      case rel => exact ⟨(wrap64 (x9_1 + 1)), (t413), (t416), (t408), (t411), (v414), (v409), (by first | rfl | (simp; done) | (simp [*]; done)), H', ⟨by have := HK1.out; have := HJ5.out; omega⟩, ⟨by (with_reducible repeat (first | apply Kd.R_alloc | apply Kd.R_drewN | apply Kd.R_drew)); exact HO415.out⟩, ⟨by (with_reducible repeat (first | apply Kd.R_alloc | apply Kd.R_drewN | apply Kd.R_drew)); exact HO410.out⟩, ⟨by (with_reducible repeat (first | refine blk_drewN ?_ _ | refine blk_drew ?_ | refine blk_alloc ?_ _)); exact BK397.out⟩, ⟨by (with_reducible repeat (first | refine blk_drewN ?_ _ | refine blk_drew ?_ | refine blk_alloc ?_ _)); exact BK398.out⟩, ⟨by repeat (first | (with_reducible first | exact HB.out | apply below_alloc | apply pw_below_drewN | apply below_drew1 | refine below_set ?_ GE397.out | refine below_set ?_ GE398.out | refine below_set ?_ GE400.out) | exact HB.out)⟩⟩
                    · rw [if_neg c17] at H
                      exact absurd H (by simp)
                  · rw [if_neg c15] at H
                    exact absurd H (by simp)
                · rw [if_neg c11] at H
                  have c11b0 : (((rd_T58 l0 x9_1).f0) == 0) = false := beq_eq_false_iff_ne.mpr c11
                  have c11b1 : (((rd_T58 l0 x9_1).f0) != 0) = true := bne_iff_ne.mpr c11
                  by_cases c28 : ((rd_T58 l0 x9_1).f0) = 1
                  · rw [if_pos c28] at H
                    have c28b0 : (((rd_T58 l0 x9_1).f0) == 1) = true := beq_iff_eq.mpr c28
                    have c28b1 : (((rd_T58 l0 x9_1).f0) != 1) = false := bne_eq_false_iff_eq.mpr c28
                    clear c28
                    replace H := Option.bind_eq_some_iff.mp H
                    obtain ⟨⟨t418, t419, t422⟩, A290, H⟩ := H
                    replace H : ((portagelaw0_Num.f t418).bind fun t423 => ((portageref1_Writer_Code.f kj5 x399000_1 x399001_1 ((rd_T58 l0 x9_1).f2) ((rd_T58 l0 x9_1).f1)).bind fun bt424 => (if t423 = bt424.1 then ((bits_Writer_Len.f t419 t422).bind fun bt429 => (if bt429.1 = bt424.2.2 then (portagelaw1_Writes.l0 kj5 l0 a1 l2 (wrap64 (x9_1 + 1)) bt429.2.1 bt429.2.2 bt424.2.1 bt424.2.2) else (none))) else (none)))) = some r := H
                    have A29 := Aside0.mk A290
                    clear A290
                    replace H := Option.bind_eq_some_iff.mp H
                    obtain ⟨t423, A300, H⟩ := H
                    replace H : ((portageref1_Writer_Code.f kj5 x399000_1 x399001_1 ((rd_T58 l0 x9_1).f2) ((rd_T58 l0 x9_1).f1)).bind fun bt424 => (if t423 = bt424.1 then ((bits_Writer_Len.f t419 t422).bind fun bt429 => (if bt429.1 = bt424.2.2 then (portagelaw1_Writes.l0 kj5 l0 a1 l2 (wrap64 (x9_1 + 1)) bt429.2.1 bt429.2.2 bt424.2.1 bt424.2.2) else (none))) else (none))) = some r := H
                    have A30 := Aside0.mk A300
                    clear A300
                    replace H := Option.bind_eq_some_iff.mp H
                    obtain ⟨⟨t424, t425, t428⟩, A310, H⟩ := H
                    replace H : (if t423 = t424 then ((bits_Writer_Len.f t419 t422).bind fun bt429 => (if bt429.1 = t428 then (portagelaw1_Writes.l0 kj5 l0 a1 l2 (wrap64 (x9_1 + 1)) bt429.2.1 bt429.2.2 t425 t428) else (none))) else (none)) = some r := H
                    have A31 := Aside0.mk A310
                    clear A310
                    by_cases c32 : t423 = t424
                    · rw [if_pos c32] at H
                      have c32b0 : (t423 == t424) = true := beq_iff_eq.mpr c32
                      have c32b1 : (t423 != t424) = false := bne_eq_false_iff_eq.mpr c32
                      clear c32
                      replace H := Option.bind_eq_some_iff.mp H
                      obtain ⟨⟨t429, t430, t433⟩, A330, H⟩ := H
                      replace H : (if t429 = t428 then (portagelaw1_Writes.l0 kj5 l0 a1 l2 (wrap64 (x9_1 + 1)) t430 t433 t425 t428) else (none)) = some r := H
                      have A33 := Aside0.mk A330
                      clear A330
                      by_cases c34 : t429 = t428
                      · rw [if_pos c34] at H
                        have c34b0 : (t429 == t428) = true := beq_iff_eq.mpr c34
                        have c34b1 : (t429 != t428) = false := bne_eq_false_iff_eq.mpr c34
                        clear c34
                        have H' := Aside0.mk H
                        clear H
                        have p399 : 0 ≤ (x9_1 : Int) := of_decide_eq_true (by first | (with_reducible assumption) | assumption)
                        have q399 : x9_1 < (l0.length : Int) := of_decide_eq_true (by first | (with_reducible assumption) | assumption)
                        obtain ⟨ad399, e399, hx399_0, hx399_1, hx399_2⟩ := at_T58 HR0.out x9_1 p399 q399
                        cases e399
                        replace hx399_0 := (HB.out.cell (World.block_lt_of_cell? w _ hx399_0)).trans hx399_0
                        replace hx399_1 := (HB.out.cell (World.block_lt_of_cell? w _ hx399_1)).trans hx399_1
                        replace hx399_2 := (HB.out.cell (World.block_lt_of_cell? w _ hx399_2)).trans hx399_2
                        replace p399 := eq_true p399
                        replace q399 := eq_true q399
                        try go_wp2_with (first | ((with_reducible refine gate_dst (N := 10) rfl ?_); refine box_event ?hg (N := 10) ?hd (cs := #[.int .i64 0, .int .i64 0, .int .i64 0]) (t := 58) ?hr ?_; (case hd => rfl); (case hg => rfl); (case hr => first | (go_simp; done) | (go_simp; rfl)); intro gb400 hg w35 hbox hb; have n0_ := Aside0.mk (Kd.R_below (by (with_reducible repeat (first | apply Kd.R_alloc | apply Kd.R_drewN | apply Kd.R_drew)); exact HO_398000.out) hb); have n1_ := Aside0.mk (Kd.R_below (by (with_reducible repeat (first | apply Kd.R_alloc | apply Kd.R_drewN | apply Kd.R_drew)); exact HO_399000.out) hb); have n2_ := Aside0.mk (blk_below (g := gb397) (o := .cells #[u398000, .int .i64 x398001_1] 103 (0, 0)) (by (with_reducible repeat (first | refine blk_drewN ?_ _ | refine blk_drew ?_ | refine blk_alloc ?_ _)); exact BK397.out) hb); have n3_ := Aside0.mk (blk_below (g := gb398) (o := .cells #[u399000, .int .i64 x399001_1] 56 (0, 0)) (by (with_reducible repeat (first | refine blk_drewN ?_ _ | refine blk_drew ?_ | refine blk_alloc ?_ _)); exact BK398.out) hb); have n4_ := Aside0.mk (below_step (by repeat (first | (with_reducible first | exact HB.out | apply below_alloc | apply pw_below_drewN | apply below_drew1 | refine below_set ?_ GE397.out | refine below_set ?_ GE398.out) | exact HB.out)) hb); have n5_ := Aside0.mk (hbox); have n6_ := Aside0.mk ((by rw [hg]; exact (below_size (by repeat (first | (with_reducible first | exact HB.out | apply below_alloc | apply pw_below_drewN | apply below_drew1 | refine below_set ?_ GE397.out | refine below_set ?_ GE398.out) | exact HB.out))) : w.heap.size ≤ gb400)); have n7_ := Aside0.mk ((by rw [hg]; exact (below_size (by repeat (first | (with_reducible first | exact HB.out | apply below_alloc | apply pw_below_drewN | apply below_drew1 | refine below_set ?_ GE397.out | refine below_set ?_ GE398.out) | exact HB.out))) : w.heap.size ≤ gb400)); have n8_ := Aside0.mk ((by rw [hg]; exact Nat.ne_of_lt (blk_lt (g := gb397) (o := .cells #[u398000, .int .i64 x398001_1] 103 (0, 0)) (by (with_reducible repeat (first | refine blk_drewN ?_ _ | refine blk_drew ?_ | refine blk_alloc ?_ _)); exact BK397.out)) : gb397 ≠ gb400)); have n9_ := Aside0.mk ((by rw [hg]; exact Nat.ne_of_gt (blk_lt (g := gb397) (o := .cells #[u398000, .int .i64 x398001_1] 103 (0, 0)) (by (with_reducible repeat (first | refine blk_drewN ?_ _ | refine blk_drew ?_ | refine blk_alloc ?_ _)); exact BK397.out)) : gb400 ≠ gb397)); have n10_ := Aside0.mk ((by rw [hg]; exact Nat.ne_of_lt (blk_lt (g := gb398) (o := .cells #[u399000, .int .i64 x399001_1] 56 (0, 0)) (by (with_reducible repeat (first | refine blk_drewN ?_ _ | refine blk_drew ?_ | refine blk_alloc ?_ _)); exact BK398.out)) : gb398 ≠ gb400)); have n11_ := Aside0.mk ((by rw [hg]; exact Nat.ne_of_gt (blk_lt (g := gb398) (o := .cells #[u399000, .int .i64 x399001_1] 56 (0, 0)) (by (with_reducible repeat (first | refine blk_drewN ?_ _ | refine blk_drew ?_ | refine blk_alloc ?_ _)); exact BK398.out)) : gb400 ≠ gb398)); clear HO_398000; clear HO_399000; clear BK397; clear BK398; clear HB; have HO_398000 := n0_; have HO_399000 := n1_; have BK397 := n2_; have BK398 := n3_; have HB := n4_; have BK400 := n5_; have GW400 := n6_; have GE400 := n7_; have NB397_400 := n8_; have NB400_397 := n9_; have NB398_400 := n10_; have NB400_398 := n11_; clear n0_ n1_ n2_ n3_ n4_ n5_ n6_ n7_ n8_ n9_ n10_ n11_; clear hb hbox hg; have hnb36 := NB400_397.out; have hnc36 := NB397_400.out; have hnb37 := NB400_398.out; have hnc37 := NB398_400.out; have hcz38_0 : w35.cell? ⟨gb400, 0, none⟩ = some (.int .i64 0) := (blk_cell BK400.out 0).trans rfl; have hcz38_1 : w35.cell? ⟨gb400, 1, none⟩ = some (.int .i64 0) := (blk_cell BK400.out 1).trans rfl; have hcz38_2 : w35.cell? ⟨gb400, 2, none⟩ = some (.int .i64 0) := (blk_cell BK400.out 2).trans rfl; have hfz38_0 := blk_frozen BK400.out 0; have hfz38_1 := blk_frozen BK400.out 1; have hfz38_2 := blk_frozen BK400.out 2) | ((with_reducible refine gate_dst (N := 11) rfl ?_); refine box_event ?hg (N := 11) ?hd (cs := #[.int .i64 0, .int .i64 0]) (t := 43) ?hr ?_; (case hd => rfl); (case hg => rfl); (case hr => first | (go_simp; done) | (go_simp; rfl)); intro gb417 hg w39 hbox hb; have n0_ := Aside0.mk (Kd.R_below (by (with_reducible repeat (first | apply Kd.R_alloc | apply Kd.R_drewN | apply Kd.R_drew)); exact (Kd.R_mono (Kd.R_far (p := ⟨gb400, 2, none⟩) (Kd.R_far (p := ⟨gb400, 1, none⟩) (Kd.R_far (p := ⟨gb400, 0, none⟩) (Kd.R_types HO_398000.out BK400.out (by decide)) (fun _ hk => hk.2) (.int .i64 ((rd_T58 l0 x9_1).f0))) (fun _ hk => hk.2) (.int .i64 ((rd_T58 l0 x9_1).f1))) (fun _ hk => hk.2) (.int .i64 ((rd_T58 l0 x9_1).f2))) (fun _ h_ => h_.1))) hb); have n1_ := Aside0.mk (Kd.R_below (by (with_reducible repeat (first | apply Kd.R_alloc | apply Kd.R_drewN | apply Kd.R_drew)); exact (Kd.R_mono (Kd.R_far (p := ⟨gb400, 2, none⟩) (Kd.R_far (p := ⟨gb400, 1, none⟩) (Kd.R_far (p := ⟨gb400, 0, none⟩) (Kd.R_types HO_399000.out BK400.out (by decide)) (fun _ hk => hk.2) (.int .i64 ((rd_T58 l0 x9_1).f0))) (fun _ hk => hk.2) (.int .i64 ((rd_T58 l0 x9_1).f1))) (fun _ hk => hk.2) (.int .i64 ((rd_T58 l0 x9_1).f2))) (fun _ h_ => h_.1))) hb); have n2_ := Aside0.mk (blk_below (g := gb397) (o := .cells #[u398000, .int .i64 x398001_1] 103 (0, 0)) (by (with_reducible repeat (first | refine blk_drewN ?_ _ | refine blk_drew ?_ | refine blk_alloc ?_ _)); refine blk_far ?_ NB397_400.out _; (with_reducible repeat (first | refine blk_drewN ?_ _ | refine blk_drew ?_ | refine blk_alloc ?_ _)); refine blk_far ?_ NB397_400.out _; (with_reducible repeat (first | refine blk_drewN ?_ _ | refine blk_drew ?_ | refine blk_alloc ?_ _)); refine blk_far ?_ NB397_400.out _; (with_reducible repeat (first | refine blk_drewN ?_ _ | refine blk_drew ?_ | refine blk_alloc ?_ _)); exact BK397.out) hb); have n3_ := Aside0.mk (blk_below (g := gb398) (o := .cells #[u399000, .int .i64 x399001_1] 56 (0, 0)) (by (with_reducible repeat (first | refine blk_drewN ?_ _ | refine blk_drew ?_ | refine blk_alloc ?_ _)); refine blk_far ?_ NB398_400.out _; (with_reducible repeat (first | refine blk_drewN ?_ _ | refine blk_drew ?_ | refine blk_alloc ?_ _)); refine blk_far ?_ NB398_400.out _; (with_reducible repeat (first | refine blk_drewN ?_ _ | refine blk_drew ?_ | refine blk_alloc ?_ _)); refine blk_far ?_ NB398_400.out _; (with_reducible repeat (first | refine blk_drewN ?_ _ | refine blk_drew ?_ | refine blk_alloc ?_ _)); exact BK398.out) hb); have n4_ := Aside0.mk (blk_below (g := gb400) (o := .cells #[.int .i64 ((rd_T58 l0 x9_1).f0), .int .i64 ((rd_T58 l0 x9_1).f1), .int .i64 ((rd_T58 l0 x9_1).f2)] 58 (0, 0)) (by (with_reducible repeat (first | refine blk_drewN ?_ _ | refine blk_drew ?_ | refine blk_alloc ?_ _)); refine blk_put (cs := #[.int .i64 ((rd_T58 l0 x9_1).f0), .int .i64 ((rd_T58 l0 x9_1).f1), .int .i64 0]) ?_ 2 _ rfl; (with_reducible repeat (first | refine blk_drewN ?_ _ | refine blk_drew ?_ | refine blk_alloc ?_ _)); refine blk_put (cs := #[.int .i64 ((rd_T58 l0 x9_1).f0), .int .i64 0, .int .i64 0]) ?_ 1 _ rfl; (with_reducible repeat (first | refine blk_drewN ?_ _ | refine blk_drew ?_ | refine blk_alloc ?_ _)); refine blk_put (cs := #[.int .i64 0, .int .i64 0, .int .i64 0]) ?_ 0 _ rfl; (with_reducible repeat (first | refine blk_drewN ?_ _ | refine blk_drew ?_ | refine blk_alloc ?_ _)); exact BK400.out) hb); have n5_ := Aside0.mk (below_step (by repeat (first | (with_reducible first | exact HB.out | apply below_alloc | apply pw_below_drewN | apply below_drew1 | refine below_set ?_ GE397.out | refine below_set ?_ GE398.out | refine below_set ?_ GE400.out) | exact HB.out)) hb); have n6_ := Aside0.mk (hbox); have n7_ := Aside0.mk ((by rw [hg]; exact (below_size (by repeat (first | (with_reducible first | exact HB.out | apply below_alloc | apply pw_below_drewN | apply below_drew1 | refine below_set ?_ GE397.out | refine below_set ?_ GE398.out | refine below_set ?_ GE400.out) | exact HB.out))) : w.heap.size ≤ gb417)); have n8_ := Aside0.mk ((by rw [hg]; exact (below_size (by repeat (first | (with_reducible first | exact HB.out | apply below_alloc | apply pw_below_drewN | apply below_drew1 | refine below_set ?_ GE397.out | refine below_set ?_ GE398.out | refine below_set ?_ GE400.out) | exact HB.out))) : w.heap.size ≤ gb417)); have n9_ := Aside0.mk ((by rw [hg]; exact Nat.ne_of_lt (blk_lt (g := gb397) (o := .cells #[u398000, .int .i64 x398001_1] 103 (0, 0)) (by (with_reducible repeat (first | refine blk_drewN ?_ _ | refine blk_drew ?_ | refine blk_alloc ?_ _)); refine blk_far ?_ NB397_400.out _; (with_reducible repeat (first | refine blk_drewN ?_ _ | refine blk_drew ?_ | refine blk_alloc ?_ _)); refine blk_far ?_ NB397_400.out _; (with_reducible repeat (first | refine blk_drewN ?_ _ | refine blk_drew ?_ | refine blk_alloc ?_ _)); refine blk_far ?_ NB397_400.out _; (with_reducible repeat (first | refine blk_drewN ?_ _ | refine blk_drew ?_ | refine blk_alloc ?_ _)); exact BK397.out)) : gb397 ≠ gb417)); have n10_ := Aside0.mk ((by rw [hg]; exact Nat.ne_of_gt (blk_lt (g := gb397) (o := .cells #[u398000, .int .i64 x398001_1] 103 (0, 0)) (by (with_reducible repeat (first | refine blk_drewN ?_ _ | refine blk_drew ?_ | refine blk_alloc ?_ _)); refine blk_far ?_ NB397_400.out _; (with_reducible repeat (first | refine blk_drewN ?_ _ | refine blk_drew ?_ | refine blk_alloc ?_ _)); refine blk_far ?_ NB397_400.out _; (with_reducible repeat (first | refine blk_drewN ?_ _ | refine blk_drew ?_ | refine blk_alloc ?_ _)); refine blk_far ?_ NB397_400.out _; (with_reducible repeat (first | refine blk_drewN ?_ _ | refine blk_drew ?_ | refine blk_alloc ?_ _)); exact BK397.out)) : gb417 ≠ gb397)); have n11_ := Aside0.mk ((by rw [hg]; exact Nat.ne_of_lt (blk_lt (g := gb398) (o := .cells #[u399000, .int .i64 x399001_1] 56 (0, 0)) (by (with_reducible repeat (first | refine blk_drewN ?_ _ | refine blk_drew ?_ | refine blk_alloc ?_ _)); refine blk_far ?_ NB398_400.out _; (with_reducible repeat (first | refine blk_drewN ?_ _ | refine blk_drew ?_ | refine blk_alloc ?_ _)); refine blk_far ?_ NB398_400.out _; (with_reducible repeat (first | refine blk_drewN ?_ _ | refine blk_drew ?_ | refine blk_alloc ?_ _)); refine blk_far ?_ NB398_400.out _; (with_reducible repeat (first | refine blk_drewN ?_ _ | refine blk_drew ?_ | refine blk_alloc ?_ _)); exact BK398.out)) : gb398 ≠ gb417)); have n12_ := Aside0.mk ((by rw [hg]; exact Nat.ne_of_gt (blk_lt (g := gb398) (o := .cells #[u399000, .int .i64 x399001_1] 56 (0, 0)) (by (with_reducible repeat (first | refine blk_drewN ?_ _ | refine blk_drew ?_ | refine blk_alloc ?_ _)); refine blk_far ?_ NB398_400.out _; (with_reducible repeat (first | refine blk_drewN ?_ _ | refine blk_drew ?_ | refine blk_alloc ?_ _)); refine blk_far ?_ NB398_400.out _; (with_reducible repeat (first | refine blk_drewN ?_ _ | refine blk_drew ?_ | refine blk_alloc ?_ _)); refine blk_far ?_ NB398_400.out _; (with_reducible repeat (first | refine blk_drewN ?_ _ | refine blk_drew ?_ | refine blk_alloc ?_ _)); exact BK398.out)) : gb417 ≠ gb398)); have n13_ := Aside0.mk ((by rw [hg]; exact Nat.ne_of_lt (blk_lt (g := gb400) (o := .cells #[.int .i64 ((rd_T58 l0 x9_1).f0), .int .i64 ((rd_T58 l0 x9_1).f1), .int .i64 ((rd_T58 l0 x9_1).f2)] 58 (0, 0)) (by (with_reducible repeat (first | refine blk_drewN ?_ _ | refine blk_drew ?_ | refine blk_alloc ?_ _)); refine blk_put (cs := #[.int .i64 ((rd_T58 l0 x9_1).f0), .int .i64 ((rd_T58 l0 x9_1).f1), .int .i64 0]) ?_ 2 _ rfl; (with_reducible repeat (first | refine blk_drewN ?_ _ | refine blk_drew ?_ | refine blk_alloc ?_ _)); refine blk_put (cs := #[.int .i64 ((rd_T58 l0 x9_1).f0), .int .i64 0, .int .i64 0]) ?_ 1 _ rfl; (with_reducible repeat (first | refine blk_drewN ?_ _ | refine blk_drew ?_ | refine blk_alloc ?_ _)); refine blk_put (cs := #[.int .i64 0, .int .i64 0, .int .i64 0]) ?_ 0 _ rfl; (with_reducible repeat (first | refine blk_drewN ?_ _ | refine blk_drew ?_ | refine blk_alloc ?_ _)); exact BK400.out)) : gb400 ≠ gb417)); have n14_ := Aside0.mk ((by rw [hg]; exact Nat.ne_of_gt (blk_lt (g := gb400) (o := .cells #[.int .i64 ((rd_T58 l0 x9_1).f0), .int .i64 ((rd_T58 l0 x9_1).f1), .int .i64 ((rd_T58 l0 x9_1).f2)] 58 (0, 0)) (by (with_reducible repeat (first | refine blk_drewN ?_ _ | refine blk_drew ?_ | refine blk_alloc ?_ _)); refine blk_put (cs := #[.int .i64 ((rd_T58 l0 x9_1).f0), .int .i64 ((rd_T58 l0 x9_1).f1), .int .i64 0]) ?_ 2 _ rfl; (with_reducible repeat (first | refine blk_drewN ?_ _ | refine blk_drew ?_ | refine blk_alloc ?_ _)); refine blk_put (cs := #[.int .i64 ((rd_T58 l0 x9_1).f0), .int .i64 0, .int .i64 0]) ?_ 1 _ rfl; (with_reducible repeat (first | refine blk_drewN ?_ _ | refine blk_drew ?_ | refine blk_alloc ?_ _)); refine blk_put (cs := #[.int .i64 0, .int .i64 0, .int .i64 0]) ?_ 0 _ rfl; (with_reducible repeat (first | refine blk_drewN ?_ _ | refine blk_drew ?_ | refine blk_alloc ?_ _)); exact BK400.out)) : gb417 ≠ gb400)); clear HO_398000; clear HO_399000; clear BK397; clear BK398; clear BK400; clear HB; have HO_398000 := n0_; have HO_399000 := n1_; have BK397 := n2_; have BK398 := n3_; have BK400 := n4_; have HB := n5_; have BK417 := n6_; have GW417 := n7_; have GE417 := n8_; have NB397_417 := n9_; have NB417_397 := n10_; have NB398_417 := n11_; have NB417_398 := n12_; have NB400_417 := n13_; have NB417_400 := n14_; clear n0_ n1_ n2_ n3_ n4_ n5_ n6_ n7_ n8_ n9_ n10_ n11_ n12_ n13_ n14_; clear hb hbox hg; have hnb40 := NB417_397.out; have hnc40 := NB397_417.out; have hnb41 := NB417_398.out; have hnc41 := NB398_417.out; have hnb42 := NB417_400.out; have hnc42 := NB400_417.out; have hcz43_0 : w39.cell? ⟨gb417, 0, none⟩ = some (.int .i64 0) := (blk_cell BK417.out 0).trans rfl; have hcz43_1 : w39.cell? ⟨gb417, 1, none⟩ = some (.int .i64 0) := (blk_cell BK417.out 1).trans rfl; have hfz43_0 := blk_frozen BK417.out 0; have hfz43_1 := blk_frozen BK417.out 1))
                        have n0_ : Aside0 (Kd.R (Kd.int .u8) 5 ((w39.setCell ⟨gb417, 0, none⟩ (.int .i64 ((rd_T58 l0 x9_1).f2))).setCell ⟨gb417, 1, none⟩ (.int .i64 ((rd_T58 l0 x9_1).f1))) w.heap.size (fun k_ => some k_ ≠ (u399000 : Value).ownBlock) u398000 x398000_1) := ⟨by (with_reducible repeat (first | apply Kd.R_alloc | apply Kd.R_drewN | apply Kd.R_drew)); exact Kd.R_mono (Kd.R_far (p := ⟨gb417, 1, none⟩) (Kd.R_far (p := ⟨gb417, 0, none⟩) (Kd.R_types HO_398000.out BK417.out (by decide)) (fun _ hk => hk.2) (.int .i64 ((rd_T58 l0 x9_1).f2))) (fun _ hk => hk.2) (.int .i64 ((rd_T58 l0 x9_1).f1))) (fun _ hk => hk.1)⟩
                        have n1_ : Aside0 (Kd.R (Kd.int .u8) 5 ((w39.setCell ⟨gb417, 0, none⟩ (.int .i64 ((rd_T58 l0 x9_1).f2))).setCell ⟨gb417, 1, none⟩ (.int .i64 ((rd_T58 l0 x9_1).f1))) w.heap.size (fun k_ => some k_ ≠ (u398000 : Value).ownBlock) u399000 x399000_1) := ⟨by (with_reducible repeat (first | apply Kd.R_alloc | apply Kd.R_drewN | apply Kd.R_drew)); exact Kd.R_mono (Kd.R_far (p := ⟨gb417, 1, none⟩) (Kd.R_far (p := ⟨gb417, 0, none⟩) (Kd.R_types HO_399000.out BK417.out (by decide)) (fun _ hk => hk.2) (.int .i64 ((rd_T58 l0 x9_1).f2))) (fun _ hk => hk.2) (.int .i64 ((rd_T58 l0 x9_1).f1))) (fun _ hk => hk.1)⟩
                        have n2_ : Aside0 (((w39.setCell ⟨gb417, 0, none⟩ (.int .i64 ((rd_T58 l0 x9_1).f2))).setCell ⟨gb417, 1, none⟩ (.int .i64 ((rd_T58 l0 x9_1).f1))).heap[gb397]? = some (.cells #[u398000, .int .i64 x398001_1] 103 (0, 0))) := ⟨by (with_reducible repeat (first | refine blk_drewN ?_ _ | refine blk_drew ?_ | refine blk_alloc ?_ _)); refine blk_far ?_ NB397_417.out _; (with_reducible repeat (first | refine blk_drewN ?_ _ | refine blk_drew ?_ | refine blk_alloc ?_ _)); refine blk_far ?_ NB397_417.out _; (with_reducible repeat (first | refine blk_drewN ?_ _ | refine blk_drew ?_ | refine blk_alloc ?_ _)); exact BK397.out⟩
                        have n3_ : Aside0 (((w39.setCell ⟨gb417, 0, none⟩ (.int .i64 ((rd_T58 l0 x9_1).f2))).setCell ⟨gb417, 1, none⟩ (.int .i64 ((rd_T58 l0 x9_1).f1))).heap[gb398]? = some (.cells #[u399000, .int .i64 x399001_1] 56 (0, 0))) := ⟨by (with_reducible repeat (first | refine blk_drewN ?_ _ | refine blk_drew ?_ | refine blk_alloc ?_ _)); refine blk_far ?_ NB398_417.out _; (with_reducible repeat (first | refine blk_drewN ?_ _ | refine blk_drew ?_ | refine blk_alloc ?_ _)); refine blk_far ?_ NB398_417.out _; (with_reducible repeat (first | refine blk_drewN ?_ _ | refine blk_drew ?_ | refine blk_alloc ?_ _)); exact BK398.out⟩
                        have n4_ : Aside0 (((w39.setCell ⟨gb417, 0, none⟩ (.int .i64 ((rd_T58 l0 x9_1).f2))).setCell ⟨gb417, 1, none⟩ (.int .i64 ((rd_T58 l0 x9_1).f1))).heap[gb400]? = some (.cells #[.int .i64 ((rd_T58 l0 x9_1).f0), .int .i64 ((rd_T58 l0 x9_1).f1), .int .i64 ((rd_T58 l0 x9_1).f2)] 58 (0, 0))) := ⟨by (with_reducible repeat (first | refine blk_drewN ?_ _ | refine blk_drew ?_ | refine blk_alloc ?_ _)); refine blk_far ?_ NB400_417.out _; (with_reducible repeat (first | refine blk_drewN ?_ _ | refine blk_drew ?_ | refine blk_alloc ?_ _)); refine blk_far ?_ NB400_417.out _; (with_reducible repeat (first | refine blk_drewN ?_ _ | refine blk_drew ?_ | refine blk_alloc ?_ _)); exact BK400.out⟩
                        have n5_ : Aside0 (((w39.setCell ⟨gb417, 0, none⟩ (.int .i64 ((rd_T58 l0 x9_1).f2))).setCell ⟨gb417, 1, none⟩ (.int .i64 ((rd_T58 l0 x9_1).f1))).heap[gb417]? = some (.cells #[.int .i64 ((rd_T58 l0 x9_1).f2), .int .i64 ((rd_T58 l0 x9_1).f1)] 43 (0, 0))) := ⟨by (with_reducible repeat (first | refine blk_drewN ?_ _ | refine blk_drew ?_ | refine blk_alloc ?_ _)); refine blk_put (cs := #[.int .i64 ((rd_T58 l0 x9_1).f2), .int .i64 0]) ?_ 1 _ rfl; (with_reducible repeat (first | refine blk_drewN ?_ _ | refine blk_drew ?_ | refine blk_alloc ?_ _)); refine blk_put (cs := #[.int .i64 0, .int .i64 0]) ?_ 0 _ rfl; (with_reducible repeat (first | refine blk_drewN ?_ _ | refine blk_drew ?_ | refine blk_alloc ?_ _)); exact BK417.out⟩
                        have n6_ : Aside0 (Below w.heap.size w ((w39.setCell ⟨gb417, 0, none⟩ (.int .i64 ((rd_T58 l0 x9_1).f2))).setCell ⟨gb417, 1, none⟩ (.int .i64 ((rd_T58 l0 x9_1).f1)))) := ⟨by repeat (first | (with_reducible first | exact HB.out | apply below_alloc | apply pw_below_drewN | apply below_drew1 | refine below_set ?_ GE397.out | refine below_set ?_ GE398.out | refine below_set ?_ GE400.out | refine below_set ?_ GE417.out) | exact HB.out)⟩
                        (try clear HO_398000)
                        (try clear HO_399000)
                        (try clear BK397)
                        (try clear BK398)
                        (try clear BK400)
                        (try clear BK417)
                        (try clear HB)
                        generalize ((w39.setCell ⟨gb417, 0, none⟩ (.int .i64 ((rd_T58 l0 x9_1).f2))).setCell ⟨gb417, 1, none⟩ (.int .i64 ((rd_T58 l0 x9_1).f1))) = w44 at n0_ n1_ n2_ n3_ n4_ n5_ n6_ ⊢
                        have HO_398000 := n0_
                        have HO_399000 := n1_
                        have BK397 := n2_
                        have BK398 := n3_
                        have BK400 := n4_
                        have BK417 := n5_
                        have HB := n6_
                        clear n0_ n1_ n2_ n3_ n4_ n5_ n6_
                        have n0_ := Aside0.mk (Kd.R_drew HO_398000.out)
                        have n1_ := Aside0.mk (Kd.R_drew HO_399000.out)
                        have n2_ := Aside0.mk (blk_drew BK397.out)
                        have n3_ := Aside0.mk (blk_drew BK398.out)
                        have n4_ := Aside0.mk (blk_drew BK400.out)
                        have n5_ := Aside0.mk (blk_drew BK417.out)
                        have n6_ := Aside0.mk (below_drew1 HB.out)
                        clear HO_398000
                        clear HO_399000
                        clear BK397
                        clear BK398
                        clear BK400
                        clear BK417
                        clear HB
                        have HO_398000 := n0_
                        have HO_399000 := n1_
                        have BK397 := n2_
                        have BK398 := n3_
                        have BK400 := n4_
                        have BK417 := n5_
                        have HB := n6_
                        clear n0_ n1_ n2_ n3_ n4_ n5_ n6_
                        refine start_ (n := 8) (S := fun w' => w'.cell? ⟨gb417, 0, none⟩ = some (.int .i64 ((rd_T58 l0 x9_1).f2)) ∧ w'.cell? ⟨gb417, 1, none⟩ = some (.int .i64 ((rd_T58 l0 x9_1).f1))) (ds := []) #[false, false, false, false, false, false, false, false] (by kernel_rfl) rfl rfl ⟨(blk_cell BK417.out 0).trans rfl, (blk_cell BK417.out 1).trans rfl⟩ (fun hHeld => ?_); refine with_tabW portagelaw1_Writes.tab18 portagelaw1_Writes.bits18 (fun HT_ HW_ => ?_)
                        generalize w44.drew = w45 at HO_398000 HO_399000 BK397 BK398 BK400 BK417 HB hHeld ⊢
                        refine pure_ (i := 0) (N := some 69) (v := ?_) (a' := ?_) #[true, false, false, false, false, false, false, false] rfl rfl (any_of HT_.out (by kernel_rfl)) (fun _ _ _ h => h) (Or.inl ⟨by rfl, ?_⟩) ?_ ?_
                        rotate_left
                        · intro w'
                          go_simp
                          with_reducible rfl
                        rotate_left
                        · simp only [Act.put, List.setIfInBounds_toArray, List.set_cons_zero, List.set_cons_succ, i64_w, i32_w, IntKind.wrap_u8, IntKind.wrap_u32]
                          rfl
                        refine pure_ (i := 4) (N := some 73) (v := ?_) (a' := ?_) #[true, false, false, false, true, false, false, false] rfl rfl (any_of HT_.out (by kernel_rfl)) (fun _ _ _ h => h) (Or.inl ⟨by rfl, ?_⟩) ?_ ?_
                        rotate_left
                        · intro w'
                          go_simp
                          with_reducible rfl
                        rotate_left
                        · simp only [Act.put, List.setIfInBounds_toArray, List.set_cons_zero, List.set_cons_succ, i64_w, i32_w, IntKind.wrap_u8, IntKind.wrap_u32]
                          rfl
                        refine take_ (i := 1) (N := some 70) (v := ?_) (a' := ?_) #[true, true, false, false, true, false, false, false] rfl rfl (take_ofW HT_.out HW_.out (by kernel_rfl)) (fun _ _ _ h => h) (Or.inl ⟨by rfl, ?_⟩) hHeld ?_ ?_
                        rotate_left
                        · rintro w' ⟨s0, s1⟩
                          go_simp
                          with_reducible rfl
                        rotate_left
                        · simp only [Act.put, List.setIfInBounds_toArray, List.set_cons_zero, List.set_cons_succ, i64_w, i32_w, IntKind.wrap_u8, IntKind.wrap_u32]
                          rfl
                        refine take_ (i := 5) (N := some 74) (v := ?_) (a' := ?_) #[true, true, false, false, true, true, false, false] rfl rfl (take_ofW HT_.out HW_.out (by kernel_rfl)) (fun _ _ _ h => h) (Or.inl ⟨by rfl, ?_⟩) hHeld ?_ ?_
                        rotate_left
                        · rintro w' ⟨s0, s1⟩
                          go_simp
                          with_reducible rfl
                        rotate_left
                        · simp only [Act.put, List.setIfInBounds_toArray, List.set_cons_zero, List.set_cons_succ, i64_w, i32_w, IntKind.wrap_u8, IntKind.wrap_u32]
                          rfl
                        refine one_ (i := 2) (N := some 71) #[true, true, true, false, true, true, false, false] rfl rfl (one_of HT_.out (by kernel_rfl)) (by decide) (fun K hK => ?_)
                        refine goes_ Try.func38 (by kernel_rfl) rfl #[.pointer (some ⟨gb397, 0, none⟩), .agg #[.int .i64 ((rd_T58 l0 x9_1).f2), .int .i64 ((rd_T58 l0 x9_1).f1)]] (by rfl) rfl rfl (by (try simp only [List.map_toArray, List.map_cons, List.map_nil]); first | done | rfl | (simp only [List.length_drop, List.length_take]; rfl)) ?_
                        with_reducible refine (bits_Writer_Code.calls kj5 (fun k_ => some k_ = (u398000 : Value).ownBlock ∨ k_ = gb397) gb397 x398000_1 x398001_1 ((rd_T58 l0 x9_1).f2) ((rd_T58 l0 x9_1).f1) t418 t419 t422 w _ ?side1 ?side2 A29.out).mono ?_
                        (case side1 => repeat (first | (with_reducible first | exact HB.out | apply below_alloc | apply pw_below_drewN | apply below_drew1 | refine below_set ?_ GE397.out | refine below_set ?_ GE398.out | refine below_set ?_ GE400.out | refine below_set ?_ GE417.out) | exact HB.out))
                        (case side2 => exact ⟨_, (by (with_reducible repeat (first | refine blk_drewN ?_ _ | refine blk_drew ?_ | refine blk_alloc ?_ _)); exact BK397.out), GE397.out, .inr rfl, (Kd.R_mono (Kd.R_tight2 rfl (Kd.R_types HO_398000.out (by (with_reducible repeat (first | refine blk_drewN ?_ _ | refine blk_drew ?_ | refine blk_alloc ?_ _)); exact BK397.out) (by decide))) (fun k_ hk => ⟨.inl hk.1, hk.2.2⟩))⟩)
                        rintro e w46 ⟨rfl, ⟨v420, hbx_, _, _, hox_⟩, hb, hkp⟩
                        refine ⟨_, rfl, ?_⟩
                        have ho0 := Kd.R_mono (ok' := fun k_ => some k_ = (u398000 : Value).ownBlock ∨ w45.heap.size ≤ k_) hox_ (fun k_ h_ => Or.elim h_.1 (fun h1_ => Or.elim h1_ Or.inl (fun e_ => absurd e_ h_.2)) Or.inr)
                        have n0_ := Aside0.mk (Kd.R_mono (ok' := fun k_ => some k_ ≠ (v420 : Value).ownBlock) (Kd.R_keptB ((Kd.R_types HO_399000.out (by (with_reducible repeat (first | refine blk_drewN ?_ _ | refine blk_drew ?_ | refine blk_alloc ?_ _)); exact BK397.out) (by decide))) hkp (fun k_ hk_ hs_ => Or.elim hs_ (fun hs_ => (hk_.1) hs_) (fun e_ => (hk_.2) e_))) (fun k_ hk_ => fun e_ => Or.elim (ho0.1 k_ e_.symm) (fun hs_ => hk_.2.1 (Or.inl hs_)) (fun hn_ => Nat.not_le.2 hk_.2.2 hn_)))
                        have n1_ := Aside0.mk (hbx_)
                        have n2_ := Aside0.mk (blk_kept (by (with_reducible repeat (first | refine blk_drewN ?_ _ | refine blk_drew ?_ | refine blk_alloc ?_ _)); exact BK398.out) hkp (fun hs_ => Or.elim hs_ (fun hs_ => (fun e_ => (Kd.R_ne HO_398000.out BK398.out (by decide)) e_) hs_) (fun e_ => NB398_397.out e_)))
                        have n3_ := Aside0.mk (blk_kept (by (with_reducible repeat (first | refine blk_drewN ?_ _ | refine blk_drew ?_ | refine blk_alloc ?_ _)); exact BK400.out) hkp (fun hs_ => Or.elim hs_ (fun hs_ => (fun e_ => (Kd.R_ne HO_398000.out BK400.out (by decide)) e_) hs_) (fun e_ => NB400_397.out e_)))
                        have n4_ := Aside0.mk (blk_kept (by (with_reducible repeat (first | refine blk_drewN ?_ _ | refine blk_drew ?_ | refine blk_alloc ?_ _)); exact BK417.out) hkp (fun hs_ => Or.elim hs_ (fun hs_ => (fun e_ => (Kd.R_ne HO_398000.out BK417.out (by decide)) e_) hs_) (fun e_ => NB417_397.out e_)))
                        have n5_ := Aside0.mk (Kd.R_mono (ok' := fun k_ => some k_ ≠ (u399000 : Value).ownBlock) ho0 (fun k_ hk_ => Or.elim hk_ (fun hs_ => fun e_ => ((((Kd.R_types HO_399000.out (by (with_reducible repeat (first | refine blk_drewN ?_ _ | refine blk_drew ?_ | refine blk_alloc ?_ _)); exact BK397.out) (by decide))).1 k_ e_.symm).1) hs_) (fun hn_ => (Kd.fresh' (Kd.R_lt (by (with_reducible repeat (first | apply Kd.R_alloc | apply Kd.R_drewN | apply Kd.R_drew)); exact HO_399000.out)) k_ hn_))))
                        have n6_ := Aside0.mk (hb)
                        clear HO_399000
                        clear BK397
                        clear BK398
                        clear BK400
                        clear BK417
                        clear HB
                        clear HO_398000
                        have HO_399000 := n0_
                        have BK397 := n1_
                        have BK398 := n2_
                        have BK400 := n3_
                        have BK417 := n4_
                        have HO421 := n5_
                        have HB := n6_
                        clear n0_ n1_ n2_ n3_ n4_ n5_ n6_
                        (try clear hb)
                        (try clear hkp)
                        (try clear hbx_)
                        (try clear hox_)
                        (try clear ho0)
                        refine hK.out _ _ ⟨(blk_cell BK417.out 0).trans rfl, (blk_cell BK417.out 1).trans rfl⟩ (fun hHeld => ?_)
                        clear hK K
                        refine norm_ (a' := ?_) ?_ ?_
                        rotate_left
                        · show Act.put _ (some 71) _ = _
                          simp only [Act.put, List.setIfInBounds_toArray, List.set_cons_zero, List.set_cons_succ, i64_w, i32_w, IntKind.wrap_u8, IntKind.wrap_u32]
                          rfl
                        refine one_ (i := 3) (N := some 72) #[true, true, true, true, true, true, false, false] rfl rfl (one_of HT_.out (by kernel_rfl)) (by decide) (fun K hK => ?_)
                        refine goes_ Try.func29 (by kernel_rfl) rfl #[.int .i64 t418] (by rfl) rfl rfl (by (try simp only [List.map_toArray, List.map_cons, List.map_nil]); first | done | rfl | (simp only [List.length_drop, List.length_take]; rfl)) ?_
                        with_reducible refine (portagelaw0_Num.calls t418 t423 _ A30.out).mono ?_
                        rintro e w' ⟨rfl, ⟨nd, rfl⟩⟩
                        refine ⟨_, rfl, ?_⟩
                        refine hK.out _ _ ⟨(blk_cell BK417.out 0).trans rfl, (blk_cell BK417.out 1).trans rfl⟩ (fun hHeld => ?_)
                        clear hK K
                        refine norm_ (a' := ?_) ?_ ?_
                        rotate_left
                        · show Act.put _ (some 72) _ = _
                          simp only [Act.put, List.setIfInBounds_toArray, List.set_cons_zero, List.set_cons_succ, i64_w, i32_w, IntKind.wrap_u8, IntKind.wrap_u32]
                          rfl
                        refine one_ (i := 6) (N := some 75) #[true, true, true, true, true, true, true, false] rfl rfl (one_of HT_.out (by kernel_rfl)) (by decide) (fun K hK => ?_)
                        refine goes_ Try.func39 (by kernel_rfl) rfl #[.pointer (some ⟨gb398, 0, none⟩), .agg #[.int .i64 ((rd_T58 l0 x9_1).f2), .int .i64 ((rd_T58 l0 x9_1).f1)]] (by rfl) rfl rfl (by (try simp only [List.map_toArray, List.map_cons, List.map_nil]); first | done | rfl | (simp only [List.length_drop, List.length_take]; rfl)) ?_
                        with_reducible refine (portageref1_Writer_Code.calls kj5 (fun k_ => some k_ = (u399000 : Value).ownBlock ∨ k_ = gb398) gb398 x399000_1 x399001_1 ((rd_T58 l0 x9_1).f2) ((rd_T58 l0 x9_1).f1) t424 t425 t428 w _ ?side1 ?side2 A31.out).mono ?_
                        (case side1 => repeat (first | (with_reducible first | exact HB.out | apply below_alloc | apply pw_below_drewN | apply below_drew1 | refine below_set ?_ GE397.out | refine below_set ?_ GE398.out | refine below_set ?_ GE400.out | refine below_set ?_ GE417.out) | exact HB.out))
                        (case side2 => exact ⟨_, (by (with_reducible repeat (first | refine blk_drewN ?_ _ | refine blk_drew ?_ | refine blk_alloc ?_ _)); exact BK398.out), GE398.out, .inr rfl, (Kd.R_mono (Kd.R_tight2 rfl (Kd.R_types HO_399000.out (by (with_reducible repeat (first | refine blk_drewN ?_ _ | refine blk_drew ?_ | refine blk_alloc ?_ _)); exact BK398.out) (by decide))) (fun k_ hk => ⟨.inl hk.1, hk.2.2⟩))⟩)
                        rintro e w47 ⟨rfl, ⟨v426, hbx_, _, _, hox_⟩, hb, hkp⟩
                        refine ⟨_, rfl, ?_⟩
                        have ho0 := Kd.R_mono (ok' := fun k_ => some k_ = (u399000 : Value).ownBlock ∨ w46.heap.size ≤ k_) hox_ (fun k_ h_ => Or.elim h_.1 (fun h1_ => Or.elim h1_ Or.inl (fun e_ => absurd e_ h_.2)) Or.inr)
                        have n0_ := Aside0.mk (blk_kept (by (with_reducible repeat (first | refine blk_drewN ?_ _ | refine blk_drew ?_ | refine blk_alloc ?_ _)); exact BK397.out) hkp (fun hs_ => Or.elim hs_ (fun hs_ => (fun e_ => (Kd.R_ne HO_399000.out BK397.out (by decide)) e_) hs_) (fun e_ => NB397_398.out e_)))
                        have n1_ := Aside0.mk (hbx_)
                        have n2_ := Aside0.mk (blk_kept (by (with_reducible repeat (first | refine blk_drewN ?_ _ | refine blk_drew ?_ | refine blk_alloc ?_ _)); exact BK400.out) hkp (fun hs_ => Or.elim hs_ (fun hs_ => (fun e_ => (Kd.R_ne HO_399000.out BK400.out (by decide)) e_) hs_) (fun e_ => NB400_398.out e_)))
                        have n3_ := Aside0.mk (blk_kept (by (with_reducible repeat (first | refine blk_drewN ?_ _ | refine blk_drew ?_ | refine blk_alloc ?_ _)); exact BK417.out) hkp (fun hs_ => Or.elim hs_ (fun hs_ => (fun e_ => (Kd.R_ne HO_399000.out BK417.out (by decide)) e_) hs_) (fun e_ => NB417_398.out e_)))
                        have n4_ := Aside0.mk (Kd.R_mono (ok' := fun k_ => some k_ ≠ (v426 : Value).ownBlock) (Kd.R_keptB ((Kd.R_types HO421.out (by (with_reducible repeat (first | refine blk_drewN ?_ _ | refine blk_drew ?_ | refine blk_alloc ?_ _)); exact BK398.out) (by decide))) hkp (fun k_ hk_ hs_ => Or.elim hs_ (fun hs_ => (hk_.1) hs_) (fun e_ => (hk_.2) e_))) (fun k_ hk_ => fun e_ => Or.elim (ho0.1 k_ e_.symm) (fun hs_ => hk_.2.1 (Or.inl hs_)) (fun hn_ => Nat.not_le.2 hk_.2.2 hn_)))
                        have n5_ := Aside0.mk (Kd.R_mono (ok' := fun k_ => some k_ ≠ (v420 : Value).ownBlock) ho0 (fun k_ hk_ => Or.elim hk_ (fun hs_ => fun e_ => ((((Kd.R_types HO421.out (by (with_reducible repeat (first | refine blk_drewN ?_ _ | refine blk_drew ?_ | refine blk_alloc ?_ _)); exact BK398.out) (by decide))).1 k_ e_.symm).1) hs_) (fun hn_ => (Kd.fresh' (Kd.R_lt (by (with_reducible repeat (first | apply Kd.R_alloc | apply Kd.R_drewN | apply Kd.R_drew)); exact HO421.out)) k_ hn_))))
                        have n6_ := Aside0.mk (hb)
                        clear BK397
                        clear BK398
                        clear BK400
                        clear BK417
                        clear HO421
                        clear HB
                        clear HO_399000
                        have BK397 := n0_
                        have BK398 := n1_
                        have BK400 := n2_
                        have BK417 := n3_
                        have HO421 := n4_
                        have HO427 := n5_
                        have HB := n6_
                        clear n0_ n1_ n2_ n3_ n4_ n5_ n6_
                        (try clear hb)
                        (try clear hkp)
                        (try clear hbx_)
                        (try clear hox_)
                        (try clear ho0)
                        refine hK.out _ _ ⟨(blk_cell BK417.out 0).trans rfl, (blk_cell BK417.out 1).trans rfl⟩ (fun hHeld => ?_)
                        clear hK K
                        refine norm_ (a' := ?_) ?_ ?_
                        rotate_left
                        · show Act.put _ (some 75) _ = _
                          simp only [Act.put, List.setIfInBounds_toArray, List.set_cons_zero, List.set_cons_succ, i64_w, i32_w, IntKind.wrap_u8, IntKind.wrap_u32]
                          rfl
                        refine pure_ (i := 7) (N := some 76) (v := ?_) (a' := ?_) #[true, true, true, true, true, true, true, true] rfl rfl (any_of HT_.out (by kernel_rfl)) (fun _ _ _ h => h) (Or.inl ⟨by rfl, ?_⟩) ?_ ?_
                        rotate_left
                        · intro w'
                          go_simp
                          with_reducible rfl
                        rotate_left
                        · simp only [Act.put, List.setIfInBounds_toArray, List.set_cons_zero, List.set_cons_succ, i64_w, i32_w, IntKind.wrap_u8, IntKind.wrap_u32]
                          rfl
                        refine done_ (done_of HT_.out (by kernel_rfl)) ?_
                        try go_wp2
                        have n0_ := Aside0.mk (Kd.R_drew HO421.out)
                        have n1_ := Aside0.mk (Kd.R_drew HO427.out)
                        have n2_ := Aside0.mk (blk_drew BK397.out)
                        have n3_ := Aside0.mk (blk_drew BK398.out)
                        have n4_ := Aside0.mk (blk_drew BK400.out)
                        have n5_ := Aside0.mk (blk_drew BK417.out)
                        have n6_ := Aside0.mk (below_drew1 HB.out)
                        clear HO421
                        clear HO427
                        clear BK397
                        clear BK398
                        clear BK400
                        clear BK417
                        clear HB
                        have HO421 := n0_
                        have HO427 := n1_
                        have BK397 := n2_
                        have BK398 := n3_
                        have BK400 := n4_
                        have BK417 := n5_
                        have HB := n6_
                        clear n0_ n1_ n2_ n3_ n4_ n5_ n6_
                        refine start_ (n := 7) (S := fun w' => w'.cell? ⟨gb398, 0, none⟩ = some (v426) ∧ w'.cell? ⟨gb398, 1, none⟩ = some (.int .i64 t428)) (ds := []) #[false, false, false, false, false, false, false] (by kernel_rfl) rfl rfl ⟨(blk_cell BK398.out 0).trans rfl, (blk_cell BK398.out 1).trans rfl⟩ (fun hHeld => ?_)
                        generalize w47.drew = w48 at HO421 HO427 BK397 BK398 BK400 BK417 HB hHeld ⊢
                        refine pure_ (i := 0) (N := some 77) (v := ?_) (a' := ?_) #[true, false, false, false, false, false, false] rfl rfl (by kernel_rfl) (fun _ _ _ h => h) (Or.inl ⟨by rfl, ?_⟩) ?_ ?_
                        rotate_left
                        · intro w'
                          go_simp
                          with_reducible rfl
                        rotate_left
                        · simp only [Act.put, List.setIfInBounds_toArray, List.set_cons_zero, List.set_cons_succ, i64_w, i32_w, IntKind.wrap_u8, IntKind.wrap_u32]
                          rfl
                        refine pure_ (i := 2) (N := some 79) (v := ?_) (a' := ?_) #[true, false, true, false, false, false, false] rfl rfl (by kernel_rfl) (fun _ _ _ h => h) (Or.inl ⟨by rfl, ?_⟩) ?_ ?_
                        rotate_left
                        · intro w'
                          go_simp
                          with_reducible rfl
                        rotate_left
                        · simp only [Act.put, List.setIfInBounds_toArray, List.set_cons_zero, List.set_cons_succ, i64_w, i32_w, IntKind.wrap_u8, IntKind.wrap_u32]
                          rfl
                        refine pure_ (i := 3) (N := some 80) (v := ?_) (a' := ?_) #[true, false, true, true, false, false, false] rfl rfl (by kernel_rfl) (fun _ _ _ h => h) (Or.inl ⟨by rfl, ?_⟩) ?_ ?_
                        rotate_left
                        · intro w'
                          go_simp
                          with_reducible rfl
                        rotate_left
                        · simp only [Act.put, List.setIfInBounds_toArray, List.set_cons_zero, List.set_cons_succ, i64_w, i32_w, IntKind.wrap_u8, IntKind.wrap_u32]
                          rfl
                        refine pure_ (i := 4) (N := some 81) (v := ?_) (a' := ?_) #[true, false, true, true, true, false, false] rfl rfl (by kernel_rfl) (fun _ _ _ h => h) (Or.inl ⟨by rfl, ?_⟩) ?_ ?_
                        rotate_left
                        · intro w'
                          go_simp
                          with_reducible rfl
                        rotate_left
                        · simp only [Act.put, List.setIfInBounds_toArray, List.set_cons_zero, List.set_cons_succ, i64_w, i32_w, IntKind.wrap_u8, IntKind.wrap_u32]
                          rfl
                        refine take_ (i := 5) (N := some 82) (v := ?_) (a' := ?_) #[true, false, true, true, true, true, false] rfl rfl (by kernel_rfl) (fun _ _ _ h => h) (Or.inl ⟨by rfl, ?_⟩) hHeld ?_ ?_
                        rotate_left
                        · rintro w' ⟨s0, s1⟩
                          go_simp
                          with_reducible rfl
                        rotate_left
                        · simp only [Act.put, List.setIfInBounds_toArray, List.set_cons_zero, List.set_cons_succ, i64_w, i32_w, IntKind.wrap_u8, IntKind.wrap_u32]
                          rfl
                        refine one_ (i := 1) (N := some 78) #[true, true, true, true, true, true, false] rfl rfl (by kernel_rfl) (by decide) (fun K hK => ?_)
                        refine goes_ Try.func42 (by kernel_rfl) rfl #[.pointer (some ⟨gb397, 0, none⟩)] (by rfl) rfl rfl (by (try simp only [List.map_toArray, List.map_cons, List.map_nil]); first | done | rfl | (simp only [List.length_drop, List.length_take]; rfl)) ?_
                        with_reducible refine (bits_Writer_Len.calls (fun k_ => some k_ = (v420 : Value).ownBlock ∨ k_ = gb397) gb397 t419 t422 t429 t430 t433 w _ ?side1 ?side2 A33.out).mono ?_
                        (case side1 => repeat (first | (with_reducible first | exact HB.out | apply below_alloc | apply pw_below_drewN | apply below_drew1 | refine below_set ?_ GE397.out | refine below_set ?_ GE398.out | refine below_set ?_ GE400.out | refine below_set ?_ GE417.out) | exact HB.out))
                        (case side2 => exact ⟨_, (by (with_reducible repeat (first | refine blk_drewN ?_ _ | refine blk_drew ?_ | refine blk_alloc ?_ _)); exact BK397.out), GE397.out, .inr rfl, (Kd.R_mono (Kd.R_tight2 rfl (Kd.R_types HO421.out (by (with_reducible repeat (first | refine blk_drewN ?_ _ | refine blk_drew ?_ | refine blk_alloc ?_ _)); exact BK397.out) (by decide))) (fun k_ hk => ⟨.inl hk.1, hk.2.2⟩))⟩)
                        rintro e w49 ⟨rfl, ⟨v431, hbx_, _, _, hox_⟩, hb, hkp⟩
                        refine ⟨_, rfl, ?_⟩
                        have ho0 := Kd.R_mono (ok' := fun k_ => some k_ = (v420 : Value).ownBlock ∨ w48.heap.size ≤ k_) hox_ (fun k_ h_ => Or.elim h_.1 (fun h1_ => Or.elim h1_ Or.inl (fun e_ => absurd e_ h_.2)) Or.inr)
                        have n0_ := Aside0.mk (hbx_)
                        have n1_ := Aside0.mk (blk_kept (by (with_reducible repeat (first | refine blk_drewN ?_ _ | refine blk_drew ?_ | refine blk_alloc ?_ _)); exact BK398.out) hkp (fun hs_ => Or.elim hs_ (fun hs_ => (fun e_ => (Kd.R_ne HO421.out BK398.out (by decide)) e_) hs_) (fun e_ => NB398_397.out e_)))
                        have n2_ := Aside0.mk (blk_kept (by (with_reducible repeat (first | refine blk_drewN ?_ _ | refine blk_drew ?_ | refine blk_alloc ?_ _)); exact BK400.out) hkp (fun hs_ => Or.elim hs_ (fun hs_ => (fun e_ => (Kd.R_ne HO421.out BK400.out (by decide)) e_) hs_) (fun e_ => NB400_397.out e_)))
                        have n3_ := Aside0.mk (blk_kept (by (with_reducible repeat (first | refine blk_drewN ?_ _ | refine blk_drew ?_ | refine blk_alloc ?_ _)); exact BK417.out) hkp (fun hs_ => Or.elim hs_ (fun hs_ => (fun e_ => (Kd.R_ne HO421.out BK417.out (by decide)) e_) hs_) (fun e_ => NB417_397.out e_)))
                        have n4_ := Aside0.mk (Kd.R_mono (ok' := fun k_ => some k_ ≠ (v431 : Value).ownBlock) (Kd.R_keptB ((Kd.R_types HO427.out (by (with_reducible repeat (first | refine blk_drewN ?_ _ | refine blk_drew ?_ | refine blk_alloc ?_ _)); exact BK397.out) (by decide))) hkp (fun k_ hk_ hs_ => Or.elim hs_ (fun hs_ => (hk_.1) hs_) (fun e_ => (hk_.2) e_))) (fun k_ hk_ => fun e_ => Or.elim (ho0.1 k_ e_.symm) (fun hs_ => hk_.2.1 (Or.inl hs_)) (fun hn_ => Nat.not_le.2 hk_.2.2 hn_)))
                        have n5_ := Aside0.mk (Kd.R_mono (ok' := fun k_ => some k_ ≠ (v426 : Value).ownBlock) ho0 (fun k_ hk_ => Or.elim hk_ (fun hs_ => fun e_ => ((((Kd.R_types HO427.out (by (with_reducible repeat (first | refine blk_drewN ?_ _ | refine blk_drew ?_ | refine blk_alloc ?_ _)); exact BK397.out) (by decide))).1 k_ e_.symm).1) hs_) (fun hn_ => (Kd.fresh' (Kd.R_lt (by (with_reducible repeat (first | apply Kd.R_alloc | apply Kd.R_drewN | apply Kd.R_drew)); exact HO427.out)) k_ hn_))))
                        have n6_ := Aside0.mk (hb)
                        clear BK397
                        clear BK398
                        clear BK400
                        clear BK417
                        clear HO427
                        clear HB
                        clear HO421
                        have BK397 := n0_
                        have BK398 := n1_
                        have BK400 := n2_
                        have BK417 := n3_
                        have HO427 := n4_
                        have HO432 := n5_
                        have HB := n6_
                        clear n0_ n1_ n2_ n3_ n4_ n5_ n6_
                        (try clear hb)
                        (try clear hkp)
                        (try clear hbx_)
                        (try clear hox_)
                        (try clear ho0)
                        refine hK.out _ _ ⟨(blk_cell BK398.out 0).trans rfl, (blk_cell BK398.out 1).trans rfl⟩ (fun hHeld => ?_)
                        clear hK K
                        refine norm_ (a' := ?_) ?_ ?_
                        rotate_left
                        · show Act.put _ (some 78) _ = _
                          simp only [Act.put, List.setIfInBounds_toArray, List.set_cons_zero, List.set_cons_succ, i64_w, i32_w, IntKind.wrap_u8, IntKind.wrap_u32]
                          rfl
                        refine pure_ (i := 6) (N := some 83) (v := ?_) (a' := ?_) #[true, true, true, true, true, true, true] rfl rfl (by kernel_rfl) (fun _ _ _ h => h) (Or.inl ⟨by rfl, ?_⟩) ?_ ?_
                        rotate_left
                        · intro w'
                          go_simp
                          with_reducible rfl
                        rotate_left
                        · simp only [Act.put, List.setIfInBounds_toArray, List.set_cons_zero, List.set_cons_succ, i64_w, i32_w, IntKind.wrap_u8, IntKind.wrap_u32]
                          rfl
                        refine done_ (by kernel_rfl) ?_
                        try go_wp2
                        go_roundg kj5
                        case measure => have := HK1.out; have := HJ5.out; omega
                        case rel => exact ⟨(wrap64 (x9_1 + 1)), (t430), (t433), (t425), (t428), (v431), (v426), (by first | rfl | (simp; done) | (simp [*]; done)), H', ⟨by have := HK1.out; have := HJ5.out; omega⟩, ⟨by (with_reducible repeat (first | apply Kd.R_alloc | apply Kd.R_drewN | apply Kd.R_drew)); exact HO432.out⟩, ⟨by (with_reducible repeat (first | apply Kd.R_alloc | apply Kd.R_drewN | apply Kd.R_drew)); exact HO427.out⟩, ⟨by (with_reducible repeat (first | refine blk_drewN ?_ _ | refine blk_drew ?_ | refine blk_alloc ?_ _)); exact BK397.out⟩, ⟨by (with_reducible repeat (first | refine blk_drewN ?_ _ | refine blk_drew ?_ | refine blk_alloc ?_ _)); exact BK398.out⟩, ⟨by repeat (first | (with_reducible first | exact HB.out | apply below_alloc | apply pw_below_drewN | apply below_drew1 | refine below_set ?_ GE397.out | refine below_set ?_ GE398.out | refine below_set ?_ GE400.out | refine below_set ?_ GE417.out) | exact HB.out)⟩⟩
                      · rw [if_neg c34] at H
                        exact absurd H (by simp)
                    · rw [if_neg c32] at H
                      exact absurd H (by simp)
                  · rw [if_neg c28] at H
                    have c28b0 : (((rd_T58 l0 x9_1).f0) == 1) = false := beq_eq_false_iff_ne.mpr c28
                    have c28b1 : (((rd_T58 l0 x9_1).f0) != 1) = true := bne_iff_ne.mpr c28
                    replace H := Option.bind_eq_some_iff.mp H
                    obtain ⟨⟨t434, t435, t438⟩, A500, H⟩ := H
                    replace H : ((portagelaw0_Num.f t434).bind fun t439 => (if t439 = 0 then ((portageref1_Writer_Align.f kj5 x399000_1 x399001_1).bind fun bt440 => ((bits_Writer_Len.f t435 t438).bind fun bt444 => (if bt444.1 = bt440.2 then (portagelaw1_Writes.l0 kj5 l0 a1 l2 (wrap64 (x9_1 + 1)) bt444.2.1 bt444.2.2 bt440.1 bt440.2) else (none)))) else (none))) = some r := H
                    have A50 := Aside0.mk A500
                    clear A500
                    replace H := Option.bind_eq_some_iff.mp H
                    obtain ⟨t439, A510, H⟩ := H
                    replace H : (if t439 = 0 then ((portageref1_Writer_Align.f kj5 x399000_1 x399001_1).bind fun bt440 => ((bits_Writer_Len.f t435 t438).bind fun bt444 => (if bt444.1 = bt440.2 then (portagelaw1_Writes.l0 kj5 l0 a1 l2 (wrap64 (x9_1 + 1)) bt444.2.1 bt444.2.2 bt440.1 bt440.2) else (none)))) else (none)) = some r := H
                    have A51 := Aside0.mk A510
                    clear A510
                    by_cases c52 : t439 = 0
                    · rw [if_pos c52] at H
                      have c52b0 : (t439 == 0) = true := beq_iff_eq.mpr c52
                      have c52b1 : (t439 != 0) = false := bne_eq_false_iff_eq.mpr c52
                      clear c52
                      replace H := Option.bind_eq_some_iff.mp H
                      obtain ⟨⟨t440, t443⟩, A530, H⟩ := H
                      replace H : ((bits_Writer_Len.f t435 t438).bind fun bt444 => (if bt444.1 = t443 then (portagelaw1_Writes.l0 kj5 l0 a1 l2 (wrap64 (x9_1 + 1)) bt444.2.1 bt444.2.2 t440 t443) else (none))) = some r := H
                      have A53 := Aside0.mk A530
                      clear A530
                      replace H := Option.bind_eq_some_iff.mp H
                      obtain ⟨⟨t444, t445, t448⟩, A540, H⟩ := H
                      replace H : (if t444 = t443 then (portagelaw1_Writes.l0 kj5 l0 a1 l2 (wrap64 (x9_1 + 1)) t445 t448 t440 t443) else (none)) = some r := H
                      have A54 := Aside0.mk A540
                      clear A540
                      by_cases c55 : t444 = t443
                      · rw [if_pos c55] at H
                        have c55b0 : (t444 == t443) = true := beq_iff_eq.mpr c55
                        have c55b1 : (t444 != t443) = false := bne_eq_false_iff_eq.mpr c55
                        clear c55
                        have H' := Aside0.mk H
                        clear H
                        have p399 : 0 ≤ (x9_1 : Int) := of_decide_eq_true (by first | (with_reducible assumption) | assumption)
                        have q399 : x9_1 < (l0.length : Int) := of_decide_eq_true (by first | (with_reducible assumption) | assumption)
                        obtain ⟨ad399, e399, hx399_0, hx399_1, hx399_2⟩ := at_T58 HR0.out x9_1 p399 q399
                        cases e399
                        replace hx399_0 := (HB.out.cell (World.block_lt_of_cell? w _ hx399_0)).trans hx399_0
                        replace hx399_1 := (HB.out.cell (World.block_lt_of_cell? w _ hx399_1)).trans hx399_1
                        replace hx399_2 := (HB.out.cell (World.block_lt_of_cell? w _ hx399_2)).trans hx399_2
                        replace p399 := eq_true p399
                        replace q399 := eq_true q399
                        try go_wp2_with (first | ((with_reducible refine gate_dst (N := 10) rfl ?_); refine box_event ?hg (N := 10) ?hd (cs := #[.int .i64 0, .int .i64 0, .int .i64 0]) (t := 58) ?hr ?_; (case hd => rfl); (case hg => rfl); (case hr => first | (go_simp; done) | (go_simp; rfl)); intro gb400 hg w56 hbox hb; have n0_ := Aside0.mk (Kd.R_below (by (with_reducible repeat (first | apply Kd.R_alloc | apply Kd.R_drewN | apply Kd.R_drew)); exact HO_398000.out) hb); have n1_ := Aside0.mk (Kd.R_below (by (with_reducible repeat (first | apply Kd.R_alloc | apply Kd.R_drewN | apply Kd.R_drew)); exact HO_399000.out) hb); have n2_ := Aside0.mk (blk_below (g := gb397) (o := .cells #[u398000, .int .i64 x398001_1] 103 (0, 0)) (by (with_reducible repeat (first | refine blk_drewN ?_ _ | refine blk_drew ?_ | refine blk_alloc ?_ _)); exact BK397.out) hb); have n3_ := Aside0.mk (blk_below (g := gb398) (o := .cells #[u399000, .int .i64 x399001_1] 56 (0, 0)) (by (with_reducible repeat (first | refine blk_drewN ?_ _ | refine blk_drew ?_ | refine blk_alloc ?_ _)); exact BK398.out) hb); have n4_ := Aside0.mk (below_step (by repeat (first | (with_reducible first | exact HB.out | apply below_alloc | apply pw_below_drewN | apply below_drew1 | refine below_set ?_ GE397.out | refine below_set ?_ GE398.out) | exact HB.out)) hb); have n5_ := Aside0.mk (hbox); have n6_ := Aside0.mk ((by rw [hg]; exact (below_size (by repeat (first | (with_reducible first | exact HB.out | apply below_alloc | apply pw_below_drewN | apply below_drew1 | refine below_set ?_ GE397.out | refine below_set ?_ GE398.out) | exact HB.out))) : w.heap.size ≤ gb400)); have n7_ := Aside0.mk ((by rw [hg]; exact (below_size (by repeat (first | (with_reducible first | exact HB.out | apply below_alloc | apply pw_below_drewN | apply below_drew1 | refine below_set ?_ GE397.out | refine below_set ?_ GE398.out) | exact HB.out))) : w.heap.size ≤ gb400)); have n8_ := Aside0.mk ((by rw [hg]; exact Nat.ne_of_lt (blk_lt (g := gb397) (o := .cells #[u398000, .int .i64 x398001_1] 103 (0, 0)) (by (with_reducible repeat (first | refine blk_drewN ?_ _ | refine blk_drew ?_ | refine blk_alloc ?_ _)); exact BK397.out)) : gb397 ≠ gb400)); have n9_ := Aside0.mk ((by rw [hg]; exact Nat.ne_of_gt (blk_lt (g := gb397) (o := .cells #[u398000, .int .i64 x398001_1] 103 (0, 0)) (by (with_reducible repeat (first | refine blk_drewN ?_ _ | refine blk_drew ?_ | refine blk_alloc ?_ _)); exact BK397.out)) : gb400 ≠ gb397)); have n10_ := Aside0.mk ((by rw [hg]; exact Nat.ne_of_lt (blk_lt (g := gb398) (o := .cells #[u399000, .int .i64 x399001_1] 56 (0, 0)) (by (with_reducible repeat (first | refine blk_drewN ?_ _ | refine blk_drew ?_ | refine blk_alloc ?_ _)); exact BK398.out)) : gb398 ≠ gb400)); have n11_ := Aside0.mk ((by rw [hg]; exact Nat.ne_of_gt (blk_lt (g := gb398) (o := .cells #[u399000, .int .i64 x399001_1] 56 (0, 0)) (by (with_reducible repeat (first | refine blk_drewN ?_ _ | refine blk_drew ?_ | refine blk_alloc ?_ _)); exact BK398.out)) : gb400 ≠ gb398)); clear HO_398000; clear HO_399000; clear BK397; clear BK398; clear HB; have HO_398000 := n0_; have HO_399000 := n1_; have BK397 := n2_; have BK398 := n3_; have HB := n4_; have BK400 := n5_; have GW400 := n6_; have GE400 := n7_; have NB397_400 := n8_; have NB400_397 := n9_; have NB398_400 := n10_; have NB400_398 := n11_; clear n0_ n1_ n2_ n3_ n4_ n5_ n6_ n7_ n8_ n9_ n10_ n11_; clear hb hbox hg; have hnb57 := NB400_397.out; have hnc57 := NB397_400.out; have hnb58 := NB400_398.out; have hnc58 := NB398_400.out; have hcz59_0 : w56.cell? ⟨gb400, 0, none⟩ = some (.int .i64 0) := (blk_cell BK400.out 0).trans rfl; have hcz59_1 : w56.cell? ⟨gb400, 1, none⟩ = some (.int .i64 0) := (blk_cell BK400.out 1).trans rfl; have hcz59_2 : w56.cell? ⟨gb400, 2, none⟩ = some (.int .i64 0) := (blk_cell BK400.out 2).trans rfl; have hfz59_0 := blk_frozen BK400.out 0; have hfz59_1 := blk_frozen BK400.out 1; have hfz59_2 := blk_frozen BK400.out 2) | ((with_reducible refine gate_store (t := 58) (p := 10) rfl ?_); refine store_event (t := 58) (p := 10) (v := ?vo_w60) (w1 := (((w56.setCell ⟨gb400, 0, none⟩ (.int .i64 ((rd_T58 l0 x9_1).f0))).setCell ⟨gb400, 1, none⟩ (.int .i64 ((rd_T58 l0 x9_1).f1))).setCell ⟨gb400, 2, none⟩ (.int .i64 ((rd_T58 l0 x9_1).f2)))) ?hg ?ho ?hn ?hr ?_; (case ho => rfl); (case hg => rfl); (case hn => rfl); (case hr => first | (go_simp; done) | (go_simp; rfl)); intro w60 hw; have n0_ : Aside0 (Kd.R (Kd.int .u8) 5 w60 w.heap.size (fun k_ => some k_ ≠ (u399000 : Value).ownBlock) u398000 x398000_1) := ⟨(by rw [hw]; exact (by (with_reducible repeat (first | apply Kd.R_alloc | apply Kd.R_drewN | apply Kd.R_drew)); exact Kd.R_mono (Kd.R_far (p := ⟨gb400, 2, none⟩) (Kd.R_far (p := ⟨gb400, 1, none⟩) (Kd.R_far (p := ⟨gb400, 0, none⟩) (Kd.R_types HO_398000.out BK400.out (by decide)) (fun _ hk => hk.2) (.int .i64 ((rd_T58 l0 x9_1).f0))) (fun _ hk => hk.2) (.int .i64 ((rd_T58 l0 x9_1).f1))) (fun _ hk => hk.2) (.int .i64 ((rd_T58 l0 x9_1).f2))) (fun _ hk => hk.1)))⟩; have n1_ : Aside0 (Kd.R (Kd.int .u8) 5 w60 w.heap.size (fun k_ => some k_ ≠ (u398000 : Value).ownBlock) u399000 x399000_1) := ⟨(by rw [hw]; exact (by (with_reducible repeat (first | apply Kd.R_alloc | apply Kd.R_drewN | apply Kd.R_drew)); exact Kd.R_mono (Kd.R_far (p := ⟨gb400, 2, none⟩) (Kd.R_far (p := ⟨gb400, 1, none⟩) (Kd.R_far (p := ⟨gb400, 0, none⟩) (Kd.R_types HO_399000.out BK400.out (by decide)) (fun _ hk => hk.2) (.int .i64 ((rd_T58 l0 x9_1).f0))) (fun _ hk => hk.2) (.int .i64 ((rd_T58 l0 x9_1).f1))) (fun _ hk => hk.2) (.int .i64 ((rd_T58 l0 x9_1).f2))) (fun _ hk => hk.1)))⟩; have n2_ : Aside0 (w60.heap[gb397]? = some (.cells #[u398000, .int .i64 x398001_1] 103 (0, 0))) := ⟨(by rw [hw]; exact (by (with_reducible repeat (first | refine blk_drewN ?_ _ | refine blk_drew ?_ | refine blk_alloc ?_ _)); refine blk_far ?_ NB397_400.out _; (with_reducible repeat (first | refine blk_drewN ?_ _ | refine blk_drew ?_ | refine blk_alloc ?_ _)); refine blk_far ?_ NB397_400.out _; (with_reducible repeat (first | refine blk_drewN ?_ _ | refine blk_drew ?_ | refine blk_alloc ?_ _)); refine blk_far ?_ NB397_400.out _; (with_reducible repeat (first | refine blk_drewN ?_ _ | refine blk_drew ?_ | refine blk_alloc ?_ _)); exact BK397.out))⟩; have n3_ : Aside0 (w60.heap[gb398]? = some (.cells #[u399000, .int .i64 x399001_1] 56 (0, 0))) := ⟨(by rw [hw]; exact (by (with_reducible repeat (first | refine blk_drewN ?_ _ | refine blk_drew ?_ | refine blk_alloc ?_ _)); refine blk_far ?_ NB398_400.out _; (with_reducible repeat (first | refine blk_drewN ?_ _ | refine blk_drew ?_ | refine blk_alloc ?_ _)); refine blk_far ?_ NB398_400.out _; (with_reducible repeat (first | refine blk_drewN ?_ _ | refine blk_drew ?_ | refine blk_alloc ?_ _)); refine blk_far ?_ NB398_400.out _; (with_reducible repeat (first | refine blk_drewN ?_ _ | refine blk_drew ?_ | refine blk_alloc ?_ _)); exact BK398.out))⟩; have n4_ : Aside0 (w60.heap[gb400]? = some (.cells #[.int .i64 ((rd_T58 l0 x9_1).f0), .int .i64 ((rd_T58 l0 x9_1).f1), .int .i64 ((rd_T58 l0 x9_1).f2)] 58 (0, 0))) := ⟨(by rw [hw]; exact (by (with_reducible repeat (first | refine blk_drewN ?_ _ | refine blk_drew ?_ | refine blk_alloc ?_ _)); refine blk_put (cs := #[.int .i64 ((rd_T58 l0 x9_1).f0), .int .i64 ((rd_T58 l0 x9_1).f1), .int .i64 0]) ?_ 2 _ rfl; (with_reducible repeat (first | refine blk_drewN ?_ _ | refine blk_drew ?_ | refine blk_alloc ?_ _)); refine blk_put (cs := #[.int .i64 ((rd_T58 l0 x9_1).f0), .int .i64 0, .int .i64 0]) ?_ 1 _ rfl; (with_reducible repeat (first | refine blk_drewN ?_ _ | refine blk_drew ?_ | refine blk_alloc ?_ _)); refine blk_put (cs := #[.int .i64 0, .int .i64 0, .int .i64 0]) ?_ 0 _ rfl; (with_reducible repeat (first | refine blk_drewN ?_ _ | refine blk_drew ?_ | refine blk_alloc ?_ _)); exact BK400.out))⟩; have n5_ : Aside0 (Below w.heap.size w w60) := ⟨(by rw [hw]; exact (by repeat (first | (with_reducible first | exact HB.out | apply below_alloc | apply pw_below_drewN | apply below_drew1 | refine below_set ?_ GE397.out | refine below_set ?_ GE398.out | refine below_set ?_ GE400.out) | exact HB.out)))⟩; clear hw; clear HO_398000; clear HO_399000; clear BK397; clear BK398; clear BK400; clear HB; have HO_398000 := n0_; have HO_399000 := n1_; have BK397 := n2_; have BK398 := n3_; have BK400 := n4_; have HB := n5_; clear n0_ n1_ n2_ n3_ n4_ n5_; have hcz61_0 : w60.cell? ⟨gb400, 0, none⟩ = some (.int .i64 ((rd_T58 l0 x9_1).f0)) := (blk_cell BK400.out 0).trans rfl; have hcz61_1 : w60.cell? ⟨gb400, 1, none⟩ = some (.int .i64 ((rd_T58 l0 x9_1).f1)) := (blk_cell BK400.out 1).trans rfl; have hcz61_2 : w60.cell? ⟨gb400, 2, none⟩ = some (.int .i64 ((rd_T58 l0 x9_1).f2)) := (blk_cell BK400.out 2).trans rfl; have hfz61_0 := blk_frozen BK400.out 0; have hfz61_1 := blk_frozen BK400.out 1; have hfz61_2 := blk_frozen BK400.out 2) | ((with_reducible refine gate_callee (f := 40) rfl ?_); refine goesL_ (some 41) rfl rfl Try.func40 (by kernel_rfl) rfl #[.pointer (some ⟨gb397, 0, none⟩)] rfl (by (try simp only [List.map_toArray, List.map_cons, List.map_nil]); first | done | rfl | (simp only [List.length_drop, List.length_take]; rfl)) ?_; (with_reducible refine (bits_Writer_Align.calls (fun k_ => some k_ = (u398000 : Value).ownBlock ∨ k_ = gb397) gb397 x398000_1 x398001_1 t434 t435 t438 w _ ?side1 ?side2 A50.out).mono ?_); (case side1 => repeat (first | (with_reducible first | exact HB.out | apply below_alloc | apply pw_below_drewN | apply below_drew1 | refine below_set ?_ GE397.out | refine below_set ?_ GE398.out | refine below_set ?_ GE400.out) | exact HB.out)); (case side2 => exact ⟨_, (by (with_reducible repeat (first | refine blk_drewN ?_ _ | refine blk_drew ?_ | refine blk_alloc ?_ _)); exact BK397.out), GE397.out, .inr rfl, (Kd.R_mono (Kd.R_tight2 rfl (Kd.R_types HO_398000.out (by (with_reducible repeat (first | refine blk_drewN ?_ _ | refine blk_drew ?_ | refine blk_alloc ?_ _)); exact BK397.out) (by decide))) (fun k_ hk => ⟨.inl hk.1, hk.2.2⟩))⟩); rintro e w62 ⟨rfl, ⟨v436, hbx_, _, _, hox_⟩, hb, hkp⟩; refine ⟨_, rfl, ?_⟩; have ho0 := Kd.R_mono (ok' := fun k_ => some k_ = (u398000 : Value).ownBlock ∨ w60.heap.size ≤ k_) hox_ (fun k_ h_ => Or.elim h_.1 (fun h1_ => Or.elim h1_ Or.inl (fun e_ => absurd e_ h_.2)) Or.inr); have n0_ := Aside0.mk (Kd.R_mono (ok' := fun k_ => some k_ ≠ (v436 : Value).ownBlock) (Kd.R_keptB ((Kd.R_types HO_399000.out (by (with_reducible repeat (first | refine blk_drewN ?_ _ | refine blk_drew ?_ | refine blk_alloc ?_ _)); exact BK397.out) (by decide))) hkp (fun k_ hk_ hs_ => Or.elim hs_ (fun hs_ => (hk_.1) hs_) (fun e_ => (hk_.2) e_))) (fun k_ hk_ => fun e_ => Or.elim (ho0.1 k_ e_.symm) (fun hs_ => hk_.2.1 (Or.inl hs_)) (fun hn_ => Nat.not_le.2 hk_.2.2 hn_))); have n1_ := Aside0.mk (hbx_); have n2_ := Aside0.mk (blk_kept (by (with_reducible repeat (first | refine blk_drewN ?_ _ | refine blk_drew ?_ | refine blk_alloc ?_ _)); exact BK398.out) hkp (fun hs_ => Or.elim hs_ (fun hs_ => (fun e_ => (Kd.R_ne HO_398000.out BK398.out (by decide)) e_) hs_) (fun e_ => NB398_397.out e_))); have n3_ := Aside0.mk (blk_kept (by (with_reducible repeat (first | refine blk_drewN ?_ _ | refine blk_drew ?_ | refine blk_alloc ?_ _)); exact BK400.out) hkp (fun hs_ => Or.elim hs_ (fun hs_ => (fun e_ => (Kd.R_ne HO_398000.out BK400.out (by decide)) e_) hs_) (fun e_ => NB400_397.out e_))); have n4_ := Aside0.mk (Kd.R_mono (ok' := fun k_ => some k_ ≠ (u399000 : Value).ownBlock) ho0 (fun k_ hk_ => Or.elim hk_ (fun hs_ => fun e_ => ((((Kd.R_types HO_399000.out (by (with_reducible repeat (first | refine blk_drewN ?_ _ | refine blk_drew ?_ | refine blk_alloc ?_ _)); exact BK397.out) (by decide))).1 k_ e_.symm).1) hs_) (fun hn_ => (Kd.fresh' (Kd.R_lt (by (with_reducible repeat (first | apply Kd.R_alloc | apply Kd.R_drewN | apply Kd.R_drew)); exact HO_399000.out)) k_ hn_)))); have n5_ := Aside0.mk (hb); clear HO_399000; clear BK397; clear BK398; clear BK400; clear HB; clear HO_398000; have HO_399000 := n0_; have BK397 := n1_; have BK398 := n2_; have BK400 := n3_; have HO437 := n4_; have HB := n5_; clear n0_ n1_ n2_ n3_ n4_ n5_; (try clear hb); (try clear hkp); (try clear hbx_); (try clear hox_); (try clear ho0)) | ((with_reducible refine gate_callee (f := 29) rfl ?_); refine goesL_ (some 42) rfl rfl Try.func29 (by kernel_rfl) rfl #[.int .i64 t434] rfl (by (try simp only [List.map_toArray, List.map_cons, List.map_nil]); first | done | rfl | (simp only [List.length_drop, List.length_take]; rfl)) ?_; (with_reducible refine (portagelaw0_Num.calls t434 t439 _ A51.out).mono ?_); rintro e w' ⟨rfl, ⟨nd, rfl⟩⟩; refine ⟨_, rfl, ?_⟩) | ((with_reducible refine gate_callee (f := 41) rfl ?_); refine goesL_ (some 45) rfl rfl Try.func41 (by kernel_rfl) rfl #[.pointer (some ⟨gb398, 0, none⟩)] rfl (by (try simp only [List.map_toArray, List.map_cons, List.map_nil]); first | done | rfl | (simp only [List.length_drop, List.length_take]; rfl)) ?_; (with_reducible refine (portageref1_Writer_Align.calls kj5 (fun k_ => some k_ = (u399000 : Value).ownBlock ∨ k_ = gb398) gb398 x399000_1 x399001_1 t440 t443 w _ ?side1 ?side2 A53.out).mono ?_); (case side1 => repeat (first | (with_reducible first | exact HB.out | apply below_alloc | apply pw_below_drewN | apply below_drew1 | refine below_set ?_ GE397.out | refine below_set ?_ GE398.out | refine below_set ?_ GE400.out) | exact HB.out)); (case side2 => exact ⟨_, (by (with_reducible repeat (first | refine blk_drewN ?_ _ | refine blk_drew ?_ | refine blk_alloc ?_ _)); exact BK398.out), GE398.out, .inr rfl, (Kd.R_mono (Kd.R_tight2 rfl (Kd.R_types HO_399000.out (by (with_reducible repeat (first | refine blk_drewN ?_ _ | refine blk_drew ?_ | refine blk_alloc ?_ _)); exact BK398.out) (by decide))) (fun k_ hk => ⟨.inl hk.1, hk.2.2⟩))⟩); rintro e w63 ⟨rfl, ⟨v441, hbx_, _, _, hox_⟩, hb, hkp⟩; refine ⟨_, rfl, ?_⟩; have ho0 := Kd.R_mono (ok' := fun k_ => some k_ = (u399000 : Value).ownBlock ∨ w62.heap.size ≤ k_) hox_ (fun k_ h_ => Or.elim h_.1 (fun h1_ => Or.elim h1_ Or.inl (fun e_ => absurd e_ h_.2)) Or.inr); have n0_ := Aside0.mk (blk_kept (by (with_reducible repeat (first | refine blk_drewN ?_ _ | refine blk_drew ?_ | refine blk_alloc ?_ _)); exact BK397.out) hkp (fun hs_ => Or.elim hs_ (fun hs_ => (fun e_ => (Kd.R_ne HO_399000.out BK397.out (by decide)) e_) hs_) (fun e_ => NB397_398.out e_))); have n1_ := Aside0.mk (hbx_); have n2_ := Aside0.mk (blk_kept (by (with_reducible repeat (first | refine blk_drewN ?_ _ | refine blk_drew ?_ | refine blk_alloc ?_ _)); exact BK400.out) hkp (fun hs_ => Or.elim hs_ (fun hs_ => (fun e_ => (Kd.R_ne HO_399000.out BK400.out (by decide)) e_) hs_) (fun e_ => NB400_398.out e_))); have n3_ := Aside0.mk (Kd.R_mono (ok' := fun k_ => some k_ ≠ (v441 : Value).ownBlock) (Kd.R_keptB ((Kd.R_types HO437.out (by (with_reducible repeat (first | refine blk_drewN ?_ _ | refine blk_drew ?_ | refine blk_alloc ?_ _)); exact BK398.out) (by decide))) hkp (fun k_ hk_ hs_ => Or.elim hs_ (fun hs_ => (hk_.1) hs_) (fun e_ => (hk_.2) e_))) (fun k_ hk_ => fun e_ => Or.elim (ho0.1 k_ e_.symm) (fun hs_ => hk_.2.1 (Or.inl hs_)) (fun hn_ => Nat.not_le.2 hk_.2.2 hn_))); have n4_ := Aside0.mk (Kd.R_mono (ok' := fun k_ => some k_ ≠ (v436 : Value).ownBlock) ho0 (fun k_ hk_ => Or.elim hk_ (fun hs_ => fun e_ => ((((Kd.R_types HO437.out (by (with_reducible repeat (first | refine blk_drewN ?_ _ | refine blk_drew ?_ | refine blk_alloc ?_ _)); exact BK398.out) (by decide))).1 k_ e_.symm).1) hs_) (fun hn_ => (Kd.fresh' (Kd.R_lt (by (with_reducible repeat (first | apply Kd.R_alloc | apply Kd.R_drewN | apply Kd.R_drew)); exact HO437.out)) k_ hn_)))); have n5_ := Aside0.mk (hb); clear BK397; clear BK398; clear BK400; clear HO437; clear HB; clear HO_399000; have BK397 := n0_; have BK398 := n1_; have BK400 := n2_; have HO437 := n3_; have HO442 := n4_; have HB := n5_; clear n0_ n1_ n2_ n3_ n4_ n5_; (try clear hb); (try clear hkp); (try clear hbx_); (try clear hox_); (try clear ho0)))
                        have n0_ := Aside0.mk (Kd.R_drew HO437.out)
                        have n1_ := Aside0.mk (Kd.R_drew HO442.out)
                        have n2_ := Aside0.mk (blk_drew BK397.out)
                        have n3_ := Aside0.mk (blk_drew BK398.out)
                        have n4_ := Aside0.mk (blk_drew BK400.out)
                        have n5_ := Aside0.mk (below_drew1 HB.out)
                        clear HO437
                        clear HO442
                        clear BK397
                        clear BK398
                        clear BK400
                        clear HB
                        have HO437 := n0_
                        have HO442 := n1_
                        have BK397 := n2_
                        have BK398 := n3_
                        have BK400 := n4_
                        have HB := n5_
                        clear n0_ n1_ n2_ n3_ n4_ n5_
                        refine start_ (n := 7) (S := fun w' => w'.cell? ⟨gb398, 0, none⟩ = some (v441) ∧ w'.cell? ⟨gb398, 1, none⟩ = some (.int .i64 t443)) (ds := []) #[false, false, false, false, false, false, false] (by kernel_rfl) rfl rfl ⟨(blk_cell BK398.out 0).trans rfl, (blk_cell BK398.out 1).trans rfl⟩ (fun hHeld => ?_)
                        generalize w63.drew = w64 at HO437 HO442 BK397 BK398 BK400 HB hHeld ⊢
                        refine pure_ (i := 0) (N := some 77) (v := ?_) (a' := ?_) #[true, false, false, false, false, false, false] rfl rfl (by kernel_rfl) (fun _ _ _ h => h) (Or.inl ⟨by rfl, ?_⟩) ?_ ?_
                        rotate_left
                        · intro w'
                          go_simp
                          with_reducible rfl
                        rotate_left
                        · simp only [Act.put, List.setIfInBounds_toArray, List.set_cons_zero, List.set_cons_succ, i64_w, i32_w, IntKind.wrap_u8, IntKind.wrap_u32]
                          rfl
                        refine pure_ (i := 2) (N := some 79) (v := ?_) (a' := ?_) #[true, false, true, false, false, false, false] rfl rfl (by kernel_rfl) (fun _ _ _ h => h) (Or.inl ⟨by rfl, ?_⟩) ?_ ?_
                        rotate_left
                        · intro w'
                          go_simp
                          with_reducible rfl
                        rotate_left
                        · simp only [Act.put, List.setIfInBounds_toArray, List.set_cons_zero, List.set_cons_succ, i64_w, i32_w, IntKind.wrap_u8, IntKind.wrap_u32]
                          rfl
                        refine pure_ (i := 3) (N := some 80) (v := ?_) (a' := ?_) #[true, false, true, true, false, false, false] rfl rfl (by kernel_rfl) (fun _ _ _ h => h) (Or.inl ⟨by rfl, ?_⟩) ?_ ?_
                        rotate_left
                        · intro w'
                          go_simp
                          with_reducible rfl
                        rotate_left
                        · simp only [Act.put, List.setIfInBounds_toArray, List.set_cons_zero, List.set_cons_succ, i64_w, i32_w, IntKind.wrap_u8, IntKind.wrap_u32]
                          rfl
                        refine pure_ (i := 4) (N := some 81) (v := ?_) (a' := ?_) #[true, false, true, true, true, false, false] rfl rfl (by kernel_rfl) (fun _ _ _ h => h) (Or.inl ⟨by rfl, ?_⟩) ?_ ?_
                        rotate_left
                        · intro w'
                          go_simp
                          with_reducible rfl
                        rotate_left
                        · simp only [Act.put, List.setIfInBounds_toArray, List.set_cons_zero, List.set_cons_succ, i64_w, i32_w, IntKind.wrap_u8, IntKind.wrap_u32]
                          rfl
                        refine take_ (i := 5) (N := some 82) (v := ?_) (a' := ?_) #[true, false, true, true, true, true, false] rfl rfl (by kernel_rfl) (fun _ _ _ h => h) (Or.inl ⟨by rfl, ?_⟩) hHeld ?_ ?_
                        rotate_left
                        · rintro w' ⟨s0, s1⟩
                          go_simp
                          with_reducible rfl
                        rotate_left
                        · simp only [Act.put, List.setIfInBounds_toArray, List.set_cons_zero, List.set_cons_succ, i64_w, i32_w, IntKind.wrap_u8, IntKind.wrap_u32]
                          rfl
                        refine one_ (i := 1) (N := some 78) #[true, true, true, true, true, true, false] rfl rfl (by kernel_rfl) (by decide) (fun K hK => ?_)
                        refine goes_ Try.func42 (by kernel_rfl) rfl #[.pointer (some ⟨gb397, 0, none⟩)] (by rfl) rfl rfl (by (try simp only [List.map_toArray, List.map_cons, List.map_nil]); first | done | rfl | (simp only [List.length_drop, List.length_take]; rfl)) ?_
                        with_reducible refine (bits_Writer_Len.calls (fun k_ => some k_ = (v436 : Value).ownBlock ∨ k_ = gb397) gb397 t435 t438 t444 t445 t448 w _ ?side1 ?side2 A54.out).mono ?_
                        (case side1 => repeat (first | (with_reducible first | exact HB.out | apply below_alloc | apply pw_below_drewN | apply below_drew1 | refine below_set ?_ GE397.out | refine below_set ?_ GE398.out | refine below_set ?_ GE400.out) | exact HB.out))
                        (case side2 => exact ⟨_, (by (with_reducible repeat (first | refine blk_drewN ?_ _ | refine blk_drew ?_ | refine blk_alloc ?_ _)); exact BK397.out), GE397.out, .inr rfl, (Kd.R_mono (Kd.R_tight2 rfl (Kd.R_types HO437.out (by (with_reducible repeat (first | refine blk_drewN ?_ _ | refine blk_drew ?_ | refine blk_alloc ?_ _)); exact BK397.out) (by decide))) (fun k_ hk => ⟨.inl hk.1, hk.2.2⟩))⟩)
                        rintro e w65 ⟨rfl, ⟨v446, hbx_, _, _, hox_⟩, hb, hkp⟩
                        refine ⟨_, rfl, ?_⟩
                        have ho0 := Kd.R_mono (ok' := fun k_ => some k_ = (v436 : Value).ownBlock ∨ w64.heap.size ≤ k_) hox_ (fun k_ h_ => Or.elim h_.1 (fun h1_ => Or.elim h1_ Or.inl (fun e_ => absurd e_ h_.2)) Or.inr)
                        have n0_ := Aside0.mk (hbx_)
                        have n1_ := Aside0.mk (blk_kept (by (with_reducible repeat (first | refine blk_drewN ?_ _ | refine blk_drew ?_ | refine blk_alloc ?_ _)); exact BK398.out) hkp (fun hs_ => Or.elim hs_ (fun hs_ => (fun e_ => (Kd.R_ne HO437.out BK398.out (by decide)) e_) hs_) (fun e_ => NB398_397.out e_)))
                        have n2_ := Aside0.mk (blk_kept (by (with_reducible repeat (first | refine blk_drewN ?_ _ | refine blk_drew ?_ | refine blk_alloc ?_ _)); exact BK400.out) hkp (fun hs_ => Or.elim hs_ (fun hs_ => (fun e_ => (Kd.R_ne HO437.out BK400.out (by decide)) e_) hs_) (fun e_ => NB400_397.out e_)))
                        have n3_ := Aside0.mk (Kd.R_mono (ok' := fun k_ => some k_ ≠ (v446 : Value).ownBlock) (Kd.R_keptB ((Kd.R_types HO442.out (by (with_reducible repeat (first | refine blk_drewN ?_ _ | refine blk_drew ?_ | refine blk_alloc ?_ _)); exact BK397.out) (by decide))) hkp (fun k_ hk_ hs_ => Or.elim hs_ (fun hs_ => (hk_.1) hs_) (fun e_ => (hk_.2) e_))) (fun k_ hk_ => fun e_ => Or.elim (ho0.1 k_ e_.symm) (fun hs_ => hk_.2.1 (Or.inl hs_)) (fun hn_ => Nat.not_le.2 hk_.2.2 hn_)))
                        have n4_ := Aside0.mk (Kd.R_mono (ok' := fun k_ => some k_ ≠ (v441 : Value).ownBlock) ho0 (fun k_ hk_ => Or.elim hk_ (fun hs_ => fun e_ => ((((Kd.R_types HO442.out (by (with_reducible repeat (first | refine blk_drewN ?_ _ | refine blk_drew ?_ | refine blk_alloc ?_ _)); exact BK397.out) (by decide))).1 k_ e_.symm).1) hs_) (fun hn_ => (Kd.fresh' (Kd.R_lt (by (with_reducible repeat (first | apply Kd.R_alloc | apply Kd.R_drewN | apply Kd.R_drew)); exact HO442.out)) k_ hn_))))
                        have n5_ := Aside0.mk (hb)
                        clear BK397
                        clear BK398
                        clear BK400
                        clear HO442
                        clear HB
                        clear HO437
                        have BK397 := n0_
                        have BK398 := n1_
                        have BK400 := n2_
                        have HO442 := n3_
                        have HO447 := n4_
                        have HB := n5_
                        clear n0_ n1_ n2_ n3_ n4_ n5_
                        (try clear hb)
                        (try clear hkp)
                        (try clear hbx_)
                        (try clear hox_)
                        (try clear ho0)
                        refine hK.out _ _ ⟨(blk_cell BK398.out 0).trans rfl, (blk_cell BK398.out 1).trans rfl⟩ (fun hHeld => ?_)
                        clear hK K
                        refine norm_ (a' := ?_) ?_ ?_
                        rotate_left
                        · show Act.put _ (some 78) _ = _
                          simp only [Act.put, List.setIfInBounds_toArray, List.set_cons_zero, List.set_cons_succ, i64_w, i32_w, IntKind.wrap_u8, IntKind.wrap_u32]
                          rfl
                        refine pure_ (i := 6) (N := some 83) (v := ?_) (a' := ?_) #[true, true, true, true, true, true, true] rfl rfl (by kernel_rfl) (fun _ _ _ h => h) (Or.inl ⟨by rfl, ?_⟩) ?_ ?_
                        rotate_left
                        · intro w'
                          go_simp
                          with_reducible rfl
                        rotate_left
                        · simp only [Act.put, List.setIfInBounds_toArray, List.set_cons_zero, List.set_cons_succ, i64_w, i32_w, IntKind.wrap_u8, IntKind.wrap_u32]
                          rfl
                        refine done_ (by kernel_rfl) ?_
                        try go_wp2
                        go_roundg kj5
                        case measure => have := HK1.out; have := HJ5.out; omega
                        case rel => exact ⟨(wrap64 (x9_1 + 1)), (t445), (t448), (t440), (t443), (v446), (v441), (by first | rfl | (simp; done) | (simp [*]; done)), H', ⟨by have := HK1.out; have := HJ5.out; omega⟩, ⟨by (with_reducible repeat (first | apply Kd.R_alloc | apply Kd.R_drewN | apply Kd.R_drew)); exact HO447.out⟩, ⟨by (with_reducible repeat (first | apply Kd.R_alloc | apply Kd.R_drewN | apply Kd.R_drew)); exact HO442.out⟩, ⟨by (with_reducible repeat (first | refine blk_drewN ?_ _ | refine blk_drew ?_ | refine blk_alloc ?_ _)); exact BK397.out⟩, ⟨by (with_reducible repeat (first | refine blk_drewN ?_ _ | refine blk_drew ?_ | refine blk_alloc ?_ _)); exact BK398.out⟩, ⟨by repeat (first | (with_reducible first | exact HB.out | apply below_alloc | apply pw_below_drewN | apply below_drew1 | refine below_set ?_ GE397.out | refine below_set ?_ GE398.out | refine below_set ?_ GE400.out) | exact HB.out)⟩⟩
                      · rw [if_neg c55] at H
                        exact absurd H (by simp)
                    · rw [if_neg c52] at H
                      exact absurd H (by simp)
              · rw [if_neg c10] at H
                exact absurd H (by simp)
            · rw [if_neg c9] at H
              exact absurd H (by simp)
          · replace c8 := Bool.eq_false_iff.mpr c8
            subst c8
            have H1 : ((bits_Writer_Text.f x398000_1 x398001_1).bind fun bt451 => ((portageref1_Writer_Text.f x399000_1 x399001_1).bind fun bt456 => (if bt451.1.toList = bt456.1.toList then (portagelaw1_Writes.l1 kj5 l2 0 a1 0 a1 0) else (none)))) = some r := by rw [if_neg (show ¬ (false = true) by decide)] at H; exact H
            clear H
            have H := H1
            clear H1
            replace H := Option.bind_eq_some_iff.mp H
            obtain ⟨⟨t451, t452, t455⟩, A660, H⟩ := H
            replace H : ((portageref1_Writer_Text.f x399000_1 x399001_1).bind fun bt456 => (if t451.toList = bt456.1.toList then (portagelaw1_Writes.l1 kj5 l2 0 a1 0 a1 0) else (none))) = some r := H
            have A66 := Aside0.mk A660
            clear A660
            replace H := Option.bind_eq_some_iff.mp H
            obtain ⟨⟨t456, t457, t460⟩, A670, H⟩ := H
            replace H : (if t451.toList = t456.toList then (portagelaw1_Writes.l1 kj5 l2 0 a1 0 a1 0) else (none)) = some r := H
            have A67 := Aside0.mk A670
            clear A670
            by_cases c68 : t451.toList = t456.toList
            · rw [if_pos c68] at H
              have c68b0 : (t451.toList == t456.toList) = true := beq_iff_eq.mpr c68
              have c68b1 : (t451.toList != t456.toList) = false := bne_eq_false_iff_eq.mpr c68
              clear c68
              have H' := Aside0.mk H
              clear H
              go_wp2_with (first | (go_at_call 43; (with_reducible refine (bits_Of.calls a1 _).mono ?_); rintro e w69 ⟨gb449, rfl, hg, hbox, hb⟩; have n0_ := Aside0.mk (Kd.R_below (by (with_reducible repeat (first | apply Kd.R_alloc | apply Kd.R_drewN | apply Kd.R_drew)); exact HO_398000.out) hb); have n1_ := Aside0.mk (Kd.R_below (by (with_reducible repeat (first | apply Kd.R_alloc | apply Kd.R_drewN | apply Kd.R_drew)); exact HO_399000.out) hb); have n2_ := Aside0.mk (blk_below (g := gb397) (o := .cells #[u398000, .int .i64 x398001_1] 103 (0, 0)) (by (with_reducible repeat (first | refine blk_drewN ?_ _ | refine blk_drew ?_ | refine blk_alloc ?_ _)); exact BK397.out) hb); have n3_ := Aside0.mk (blk_below (g := gb398) (o := .cells #[u399000, .int .i64 x399001_1] 56 (0, 0)) (by (with_reducible repeat (first | refine blk_drewN ?_ _ | refine blk_drew ?_ | refine blk_alloc ?_ _)); exact BK398.out) hb); have n4_ := Aside0.mk (below_step (by repeat (first | (with_reducible first | exact HB.out | apply below_alloc | apply pw_below_drewN | apply below_drew1 | refine below_set ?_ GE397.out | refine below_set ?_ GE398.out) | exact HB.out)) hb); have n5_ := Aside0.mk (hbox); have n6_ := Aside0.mk ((by rw [hg]; exact (below_size (by repeat (first | (with_reducible first | exact HB.out | apply below_alloc | apply pw_below_drewN | apply below_drew1 | refine below_set ?_ GE397.out | refine below_set ?_ GE398.out) | exact HB.out))) : w.heap.size ≤ gb449)); have n7_ := Aside0.mk ((by rw [hg]; exact (below_size (by repeat (first | (with_reducible first | exact HB.out | apply below_alloc | apply pw_below_drewN | apply below_drew1 | refine below_set ?_ GE397.out | refine below_set ?_ GE398.out) | exact HB.out))) : w.heap.size ≤ gb449)); have n8_ := Aside0.mk ((by rw [hg]; exact Nat.ne_of_lt (blk_lt (g := gb397) (o := .cells #[u398000, .int .i64 x398001_1] 103 (0, 0)) (by (with_reducible repeat (first | refine blk_drewN ?_ _ | refine blk_drew ?_ | refine blk_alloc ?_ _)); exact BK397.out)) : gb397 ≠ gb449)); have n9_ := Aside0.mk ((by rw [hg]; exact Nat.ne_of_gt (blk_lt (g := gb397) (o := .cells #[u398000, .int .i64 x398001_1] 103 (0, 0)) (by (with_reducible repeat (first | refine blk_drewN ?_ _ | refine blk_drew ?_ | refine blk_alloc ?_ _)); exact BK397.out)) : gb449 ≠ gb397)); have n10_ := Aside0.mk ((by rw [hg]; exact Nat.ne_of_lt (blk_lt (g := gb398) (o := .cells #[u399000, .int .i64 x399001_1] 56 (0, 0)) (by (with_reducible repeat (first | refine blk_drewN ?_ _ | refine blk_drew ?_ | refine blk_alloc ?_ _)); exact BK398.out)) : gb398 ≠ gb449)); have n11_ := Aside0.mk ((by rw [hg]; exact Nat.ne_of_gt (blk_lt (g := gb398) (o := .cells #[u399000, .int .i64 x399001_1] 56 (0, 0)) (by (with_reducible repeat (first | refine blk_drewN ?_ _ | refine blk_drew ?_ | refine blk_alloc ?_ _)); exact BK398.out)) : gb449 ≠ gb398)); clear HO_398000; clear HO_399000; clear BK397; clear BK398; clear HB; have HO_398000 := n0_; have HO_399000 := n1_; have BK397 := n2_; have BK398 := n3_; have HB := n4_; have BK449 := n5_; have GW449 := n6_; have GE449 := n7_; have NB397_449 := n8_; have NB449_397 := n9_; have NB398_449 := n10_; have NB449_398 := n11_; clear n0_ n1_ n2_ n3_ n4_ n5_ n6_ n7_ n8_ n9_ n10_ n11_; clear hb hbox hg) | ((with_reducible refine gate_dst (N := 88) rfl ?_); refine box_event ?hg (N := 88) ?hd (cs := #[.string a1, .int .i64 0]) (t := 69) ?hr ?_; (case hd => rfl); (case hg => rfl); (case hr => first | (go_simp; done) | (go_simp; rfl)); intro gb450 hg w70 hbox hb; have n0_ := Aside0.mk (Kd.R_below (by (with_reducible repeat (first | apply Kd.R_alloc | apply Kd.R_drewN | apply Kd.R_drew)); exact HO_398000.out) hb); have n1_ := Aside0.mk (Kd.R_below (by (with_reducible repeat (first | apply Kd.R_alloc | apply Kd.R_drewN | apply Kd.R_drew)); exact HO_399000.out) hb); have n2_ := Aside0.mk (blk_below (g := gb397) (o := .cells #[u398000, .int .i64 x398001_1] 103 (0, 0)) (by (with_reducible repeat (first | refine blk_drewN ?_ _ | refine blk_drew ?_ | refine blk_alloc ?_ _)); exact BK397.out) hb); have n3_ := Aside0.mk (blk_below (g := gb398) (o := .cells #[u399000, .int .i64 x399001_1] 56 (0, 0)) (by (with_reducible repeat (first | refine blk_drewN ?_ _ | refine blk_drew ?_ | refine blk_alloc ?_ _)); exact BK398.out) hb); have n4_ := Aside0.mk (blk_below (g := gb449) (o := .cells #[.string a1, .int .i64 0] 107 (0, 0)) (by (with_reducible repeat (first | refine blk_drewN ?_ _ | refine blk_drew ?_ | refine blk_alloc ?_ _)); exact BK449.out) hb); have n5_ := Aside0.mk (below_step (by repeat (first | (with_reducible first | exact HB.out | apply below_alloc | apply pw_below_drewN | apply below_drew1 | refine below_set ?_ GE397.out | refine below_set ?_ GE398.out | refine below_set ?_ GE449.out) | exact HB.out)) hb); have n6_ := Aside0.mk (hbox); have n7_ := Aside0.mk ((by rw [hg]; exact (below_size (by repeat (first | (with_reducible first | exact HB.out | apply below_alloc | apply pw_below_drewN | apply below_drew1 | refine below_set ?_ GE397.out | refine below_set ?_ GE398.out | refine below_set ?_ GE449.out) | exact HB.out))) : w.heap.size ≤ gb450)); have n8_ := Aside0.mk ((by rw [hg]; exact (below_size (by repeat (first | (with_reducible first | exact HB.out | apply below_alloc | apply pw_below_drewN | apply below_drew1 | refine below_set ?_ GE397.out | refine below_set ?_ GE398.out | refine below_set ?_ GE449.out) | exact HB.out))) : w.heap.size ≤ gb450)); have n9_ := Aside0.mk ((by rw [hg]; exact Nat.ne_of_lt (blk_lt (g := gb397) (o := .cells #[u398000, .int .i64 x398001_1] 103 (0, 0)) (by (with_reducible repeat (first | refine blk_drewN ?_ _ | refine blk_drew ?_ | refine blk_alloc ?_ _)); exact BK397.out)) : gb397 ≠ gb450)); have n10_ := Aside0.mk ((by rw [hg]; exact Nat.ne_of_gt (blk_lt (g := gb397) (o := .cells #[u398000, .int .i64 x398001_1] 103 (0, 0)) (by (with_reducible repeat (first | refine blk_drewN ?_ _ | refine blk_drew ?_ | refine blk_alloc ?_ _)); exact BK397.out)) : gb450 ≠ gb397)); have n11_ := Aside0.mk ((by rw [hg]; exact Nat.ne_of_lt (blk_lt (g := gb398) (o := .cells #[u399000, .int .i64 x399001_1] 56 (0, 0)) (by (with_reducible repeat (first | refine blk_drewN ?_ _ | refine blk_drew ?_ | refine blk_alloc ?_ _)); exact BK398.out)) : gb398 ≠ gb450)); have n12_ := Aside0.mk ((by rw [hg]; exact Nat.ne_of_gt (blk_lt (g := gb398) (o := .cells #[u399000, .int .i64 x399001_1] 56 (0, 0)) (by (with_reducible repeat (first | refine blk_drewN ?_ _ | refine blk_drew ?_ | refine blk_alloc ?_ _)); exact BK398.out)) : gb450 ≠ gb398)); have n13_ := Aside0.mk ((by rw [hg]; exact Nat.ne_of_lt (blk_lt (g := gb449) (o := .cells #[.string a1, .int .i64 0] 107 (0, 0)) (by (with_reducible repeat (first | refine blk_drewN ?_ _ | refine blk_drew ?_ | refine blk_alloc ?_ _)); exact BK449.out)) : gb449 ≠ gb450)); have n14_ := Aside0.mk ((by rw [hg]; exact Nat.ne_of_gt (blk_lt (g := gb449) (o := .cells #[.string a1, .int .i64 0] 107 (0, 0)) (by (with_reducible repeat (first | refine blk_drewN ?_ _ | refine blk_drew ?_ | refine blk_alloc ?_ _)); exact BK449.out)) : gb450 ≠ gb449)); clear HO_398000; clear HO_399000; clear BK397; clear BK398; clear BK449; clear HB; have HO_398000 := n0_; have HO_399000 := n1_; have BK397 := n2_; have BK398 := n3_; have BK449 := n4_; have HB := n5_; have BK450 := n6_; have GW450 := n7_; have GE450 := n8_; have NB397_450 := n9_; have NB450_397 := n10_; have NB398_450 := n11_; have NB450_398 := n12_; have NB449_450 := n13_; have NB450_449 := n14_; clear n0_ n1_ n2_ n3_ n4_ n5_ n6_ n7_ n8_ n9_ n10_ n11_ n12_ n13_ n14_; clear hb hbox hg) | (go_at_call 44; (with_reducible refine (bits_Writer_Text.calls (fun k_ => some k_ = (u398000 : Value).ownBlock ∨ k_ = gb397) gb397 x398000_1 x398001_1 t451 t452 t455 w _ ?side1 ?side2 A66.out).mono ?_); (case side1 => repeat (first | (with_reducible first | exact HB.out | apply below_alloc | apply pw_below_drewN | apply below_drew1 | refine below_set ?_ GE397.out | refine below_set ?_ GE398.out | refine below_set ?_ GE449.out | refine below_set ?_ GE450.out) | exact HB.out)); (case side2 => exact ⟨_, (by (with_reducible repeat (first | refine blk_drewN ?_ _ | refine blk_drew ?_ | refine blk_alloc ?_ _)); exact BK397.out), GE397.out, .inr rfl, (Kd.R_mono (Kd.R_tight2 rfl (Kd.R_types HO_398000.out (by (with_reducible repeat (first | refine blk_drewN ?_ _ | refine blk_drew ?_ | refine blk_alloc ?_ _)); exact BK397.out) (by decide))) (fun k_ hk => ⟨.inl hk.1, hk.2.2⟩))⟩); rintro e w71 ⟨rfl, ⟨v453, hbx_, _, _, hox_⟩, hb, hkp⟩; have ho0 := Kd.R_mono (ok' := fun k_ => some k_ = (u398000 : Value).ownBlock ∨ w70.heap.size ≤ k_) hox_ (fun k_ h_ => Or.elim h_.1 (fun h1_ => Or.elim h1_ Or.inl (fun e_ => absurd e_ h_.2)) Or.inr); have n0_ := Aside0.mk (Kd.R_mono (ok' := fun k_ => some k_ ≠ (v453 : Value).ownBlock) (Kd.R_keptB ((Kd.R_types HO_399000.out (by (with_reducible repeat (first | refine blk_drewN ?_ _ | refine blk_drew ?_ | refine blk_alloc ?_ _)); exact BK397.out) (by decide))) hkp (fun k_ hk_ hs_ => Or.elim hs_ (fun hs_ => (hk_.1) hs_) (fun e_ => (hk_.2) e_))) (fun k_ hk_ => fun e_ => Or.elim (ho0.1 k_ e_.symm) (fun hs_ => hk_.2.1 (Or.inl hs_)) (fun hn_ => Nat.not_le.2 hk_.2.2 hn_))); have n1_ := Aside0.mk (hbx_); have n2_ := Aside0.mk (blk_kept (by (with_reducible repeat (first | refine blk_drewN ?_ _ | refine blk_drew ?_ | refine blk_alloc ?_ _)); exact BK398.out) hkp (fun hs_ => Or.elim hs_ (fun hs_ => (fun e_ => (Kd.R_ne HO_398000.out BK398.out (by decide)) e_) hs_) (fun e_ => NB398_397.out e_))); have n3_ := Aside0.mk (blk_kept (by (with_reducible repeat (first | refine blk_drewN ?_ _ | refine blk_drew ?_ | refine blk_alloc ?_ _)); exact BK449.out) hkp (fun hs_ => Or.elim hs_ (fun hs_ => (fun e_ => (Kd.R_ne HO_398000.out BK449.out (by decide)) e_) hs_) (fun e_ => NB449_397.out e_))); have n4_ := Aside0.mk (blk_kept (by (with_reducible repeat (first | refine blk_drewN ?_ _ | refine blk_drew ?_ | refine blk_alloc ?_ _)); exact BK450.out) hkp (fun hs_ => Or.elim hs_ (fun hs_ => (fun e_ => (Kd.R_ne HO_398000.out BK450.out (by decide)) e_) hs_) (fun e_ => NB450_397.out e_))); have n5_ := Aside0.mk (Kd.R_mono (ok' := fun k_ => some k_ ≠ (u399000 : Value).ownBlock) ho0 (fun k_ hk_ => Or.elim hk_ (fun hs_ => fun e_ => ((((Kd.R_types HO_399000.out (by (with_reducible repeat (first | refine blk_drewN ?_ _ | refine blk_drew ?_ | refine blk_alloc ?_ _)); exact BK397.out) (by decide))).1 k_ e_.symm).1) hs_) (fun hn_ => (Kd.fresh' (Kd.R_lt (by (with_reducible repeat (first | apply Kd.R_alloc | apply Kd.R_drewN | apply Kd.R_drew)); exact HO_399000.out)) k_ hn_)))); have n6_ := Aside0.mk (hb); clear HO_399000; clear BK397; clear BK398; clear BK449; clear BK450; clear HB; clear HO_398000; have HO_399000 := n0_; have BK397 := n1_; have BK398 := n2_; have BK449 := n3_; have BK450 := n4_; have HO454 := n5_; have HB := n6_; clear n0_ n1_ n2_ n3_ n4_ n5_ n6_; (try clear hb); (try clear hkp); (try clear hbx_); (try clear hox_); (try clear ho0)) | (go_at_call 45; (with_reducible refine (portageref1_Writer_Text.calls (fun k_ => some k_ = (u399000 : Value).ownBlock ∨ k_ = gb398) gb398 x399000_1 x399001_1 t456 t457 t460 w _ ?side1 ?side2 A67.out).mono ?_); (case side1 => repeat (first | (with_reducible first | exact HB.out | apply below_alloc | apply pw_below_drewN | apply below_drew1 | refine below_set ?_ GE397.out | refine below_set ?_ GE398.out | refine below_set ?_ GE449.out | refine below_set ?_ GE450.out) | exact HB.out)); (case side2 => exact ⟨_, (by (with_reducible repeat (first | refine blk_drewN ?_ _ | refine blk_drew ?_ | refine blk_alloc ?_ _)); exact BK398.out), GE398.out, .inr rfl, (Kd.R_mono (Kd.R_tight2 rfl (Kd.R_types HO_399000.out (by (with_reducible repeat (first | refine blk_drewN ?_ _ | refine blk_drew ?_ | refine blk_alloc ?_ _)); exact BK398.out) (by decide))) (fun k_ hk => ⟨.inl hk.1, hk.2.2⟩))⟩); rintro e w72 ⟨rfl, ⟨v458, hbx_, _, _, hox_⟩, hb, hkp⟩; have ho0 := Kd.R_mono (ok' := fun k_ => some k_ = (u399000 : Value).ownBlock ∨ w71.heap.size ≤ k_) hox_ (fun k_ h_ => Or.elim h_.1 (fun h1_ => Or.elim h1_ Or.inl (fun e_ => absurd e_ h_.2)) Or.inr); have n0_ := Aside0.mk (blk_kept (by (with_reducible repeat (first | refine blk_drewN ?_ _ | refine blk_drew ?_ | refine blk_alloc ?_ _)); exact BK397.out) hkp (fun hs_ => Or.elim hs_ (fun hs_ => (fun e_ => (Kd.R_ne HO_399000.out BK397.out (by decide)) e_) hs_) (fun e_ => NB397_398.out e_))); have n1_ := Aside0.mk (hbx_); have n2_ := Aside0.mk (blk_kept (by (with_reducible repeat (first | refine blk_drewN ?_ _ | refine blk_drew ?_ | refine blk_alloc ?_ _)); exact BK449.out) hkp (fun hs_ => Or.elim hs_ (fun hs_ => (fun e_ => (Kd.R_ne HO_399000.out BK449.out (by decide)) e_) hs_) (fun e_ => NB449_398.out e_))); have n3_ := Aside0.mk (blk_kept (by (with_reducible repeat (first | refine blk_drewN ?_ _ | refine blk_drew ?_ | refine blk_alloc ?_ _)); exact BK450.out) hkp (fun hs_ => Or.elim hs_ (fun hs_ => (fun e_ => (Kd.R_ne HO_399000.out BK450.out (by decide)) e_) hs_) (fun e_ => NB450_398.out e_))); have n4_ := Aside0.mk (Kd.R_mono (ok' := fun k_ => some k_ ≠ (v458 : Value).ownBlock) (Kd.R_keptB ((Kd.R_types HO454.out (by (with_reducible repeat (first | refine blk_drewN ?_ _ | refine blk_drew ?_ | refine blk_alloc ?_ _)); exact BK398.out) (by decide))) hkp (fun k_ hk_ hs_ => Or.elim hs_ (fun hs_ => (hk_.1) hs_) (fun e_ => (hk_.2) e_))) (fun k_ hk_ => fun e_ => Or.elim (ho0.1 k_ e_.symm) (fun hs_ => hk_.2.1 (Or.inl hs_)) (fun hn_ => Nat.not_le.2 hk_.2.2 hn_))); have n5_ := Aside0.mk (Kd.R_mono (ok' := fun k_ => some k_ ≠ (v453 : Value).ownBlock) ho0 (fun k_ hk_ => Or.elim hk_ (fun hs_ => fun e_ => ((((Kd.R_types HO454.out (by (with_reducible repeat (first | refine blk_drewN ?_ _ | refine blk_drew ?_ | refine blk_alloc ?_ _)); exact BK398.out) (by decide))).1 k_ e_.symm).1) hs_) (fun hn_ => (Kd.fresh' (Kd.R_lt (by (with_reducible repeat (first | apply Kd.R_alloc | apply Kd.R_drewN | apply Kd.R_drew)); exact HO454.out)) k_ hn_)))); have n6_ := Aside0.mk (hb); clear BK397; clear BK398; clear BK449; clear BK450; clear HO454; clear HB; clear HO_399000; have BK397 := n0_; have BK398 := n1_; have BK449 := n2_; have BK450 := n3_; have HO454 := n4_; have HO459 := n5_; have HB := n6_; clear n0_ n1_ n2_ n3_ n4_ n5_ n6_; (try clear hb); (try clear hkp); (try clear hbx_); (try clear hox_); (try clear ho0)))
              go_loopg [14] kj5 (fun kq v14 w' => ∃ (x14_3 : Int) (x450000_3 : ByteArray) (x450001_3 : Int) (x451000_3 : ByteArray) (x451001_3 : Int), v14 = .int .i64 x14_3 ∧ Aside0 (portagelaw1_Writes.l1 kq l2 x14_3 x450000_3 x450001_3 x451000_3 x451001_3 = some r) ∧ Aside0 (kq ≤ kj5) ∧ Aside0 (Kd.R (Kd.int .u8) 5 w' w.heap.size (fun k_ => some k_ ≠ (v458 : Value).ownBlock) v453 t452) ∧ Aside0 (Kd.R (Kd.int .u8) 5 w' w.heap.size (fun k_ => some k_ ≠ (v453 : Value).ownBlock) v458 t457) ∧ Aside0 (w'.heap[gb397]? = some (.cells #[v453, .int .i64 t455] 103 (0, 0))) ∧ Aside0 (w'.heap[gb398]? = some (.cells #[v458, .int .i64 t460] 56 (0, 0))) ∧ Aside0 (w'.heap[gb449]? = some (.cells #[.string x450000_3, .int .i64 x450001_3] 107 (0, 0))) ∧ Aside0 (w'.heap[gb450]? = some (.cells #[.string x451000_3, .int .i64 x451001_3] 69 (0, 0))) ∧ Aside0 (Below w.heap.size w w'))
              case atStart => exact ⟨(0), (a1), (0), (a1), (0), (by first | rfl | (simp; done) | (simp [*]; done)), H', ⟨Nat.le_refl _⟩, ⟨by (with_reducible repeat (first | apply Kd.R_alloc | apply Kd.R_drewN | apply Kd.R_drew)); exact HO454.out⟩, ⟨by (with_reducible repeat (first | apply Kd.R_alloc | apply Kd.R_drewN | apply Kd.R_drew)); exact HO459.out⟩, ⟨by (with_reducible repeat (first | refine blk_drewN ?_ _ | refine blk_drew ?_ | refine blk_alloc ?_ _)); exact BK397.out⟩, ⟨by (with_reducible repeat (first | refine blk_drewN ?_ _ | refine blk_drew ?_ | refine blk_alloc ?_ _)); exact BK398.out⟩, ⟨by (with_reducible repeat (first | refine blk_drewN ?_ _ | refine blk_drew ?_ | refine blk_alloc ?_ _)); exact BK449.out⟩, ⟨by (with_reducible repeat (first | refine blk_drewN ?_ _ | refine blk_drew ?_ | refine blk_alloc ?_ _)); exact BK450.out⟩, ⟨by repeat (first | (with_reducible first | exact HB.out | apply below_alloc | apply pw_below_drewN | apply below_drew1 | refine below_set ?_ GE397.out | refine below_set ?_ GE398.out | refine below_set ?_ GE449.out | refine below_set ?_ GE450.out) | exact HB.out)⟩⟩
              case round =>
                clear H'
                try clear c1
                try clear c2
                try clear p2
                try clear c3
                try clear p3
                try clear q3
                try clear hx3
                try clear c4
                try clear c5
                try clear c6
                try clear p6
                try clear c8
                try clear c9
                try clear c10
                try clear c11
                try clear c11b0
                try clear c11b1
                try clear c15
                try clear c17
                try clear c28
                try clear c28b0
                try clear c28b1
                try clear c29
                try clear c32
                try clear c32b0
                try clear c32b1
                try clear c34
                try clear c34b0
                try clear c34b1
                try clear c36
                try clear c37
                try clear c38
                try clear c39
                try clear p39
                try clear q39
                try clear hx39
                try clear c40
                try clear c41
                try clear c42
                try clear c52
                try clear c52b0
                try clear c52b1
                try clear c55
                try clear c55b0
                try clear c55b1
                try clear c57
                try clear c58
                try clear p64
                try clear c68
                try clear c68b0
                try clear c68b1
                try clear hcz38_0
                try clear hcz38_1
                try clear hcz38_2
                try clear hcz43_0
                try clear hcz43_1
                try clear hcz59_0
                try clear hcz59_1
                try clear hcz59_2
                try clear hcz61_0
                try clear hcz61_1
                try clear hcz61_2
                try clear hfz38_0
                try clear hfz38_1
                try clear hfz38_2
                try clear hfz43_0
                try clear hfz43_1
                try clear hfz59_0
                try clear hfz59_1
                try clear hfz59_2
                try clear hfz61_0
                try clear hfz61_1
                try clear hfz61_2
                try clear hx399_0
                try clear hx399_1
                try clear hx399_2
                try clear p399
                try clear q399
                obtain ⟨x14_3, x450000_3, x450001_3, x451000_3, x451001_3, rfl, HA, HK3, HO_398000, HO_399000, BK397, BK398, BK449, BK450, HB⟩ := hrel
                cases gk with
                | zero => exact absurd HA.out (by simp [portagelaw1_Writes.l1])
                | succ k3 =>
                  have H := HA.out
                  clear HA
                  simp only [portagelaw1_Writes.l1] at H
                  have HC73 := Aside0.mk H
                  clear H
                  go_upto_region 27 with (fail)
                  go_cut [105] (fun v105 wc => ∃ (kq : Nat) (x105_72 : Bool), v105 = .bool x105_72 ∧ Aside0 (portagelaw1_Writes.j3 kq l2 x14_3 x105_72 x450000_3 x450001_3 x451000_3 x451001_3 = some r) ∧ Aside0 (kq ≤ k3) ∧ Aside0 (Kd.R (Kd.int .u8) 5 wc w.heap.size (fun k_ => some k_ ≠ (v458 : Value).ownBlock) v453 t452) ∧ Aside0 (Kd.R (Kd.int .u8) 5 wc w.heap.size (fun k_ => some k_ ≠ (v453 : Value).ownBlock) v458 t457) ∧ Aside0 (wc.heap[gb397]? = some (.cells #[v453, .int .i64 t455] 103 (0, 0))) ∧ Aside0 (wc.heap[gb398]? = some (.cells #[v458, .int .i64 t460] 56 (0, 0))) ∧ Aside0 (wc.heap[gb449]? = some (.cells #[.string x450000_3, .int .i64 x450001_3] 107 (0, 0))) ∧ Aside0 (wc.heap[gb450]? = some (.cells #[.string x451000_3, .int .i64 x451001_3] 69 (0, 0))) ∧ Aside0 (Below w.heap.size w wc))
                  case first =>
                    have H := HC73.out
                    clear HC73
                    by_cases c74 : x14_3 < (l2.length : Int)
                    · rw [if_pos c74] at H
                      have c74b0 : decide (x14_3 < (l2.length : Int)) = true := decide_eq_true c74
                      clear c74
                      (first | rw [c74b0] | (simp only [i64_w, i32_w]; rw [c74b0]) | skip)
                      have H' := Aside0.mk H
                      clear H
                      go_wp2
                      go_meet
                      case rel => exact ⟨_, (decide (x14_3 < 100)), (by first | rfl | (simp; done) | (simp [*]; done)), H', ⟨by have := HK1.out; have := HJ5.out; have := HK3.out; first | omega | exact Nat.le_refl _⟩, ⟨by (with_reducible repeat (first | apply Kd.R_alloc | apply Kd.R_drewN | apply Kd.R_drew)); exact HO_398000.out⟩, ⟨by (with_reducible repeat (first | apply Kd.R_alloc | apply Kd.R_drewN | apply Kd.R_drew)); exact HO_399000.out⟩, ⟨by (with_reducible repeat (first | refine blk_drewN ?_ _ | refine blk_drew ?_ | refine blk_alloc ?_ _)); exact BK397.out⟩, ⟨by (with_reducible repeat (first | refine blk_drewN ?_ _ | refine blk_drew ?_ | refine blk_alloc ?_ _)); exact BK398.out⟩, ⟨by (with_reducible repeat (first | refine blk_drewN ?_ _ | refine blk_drew ?_ | refine blk_alloc ?_ _)); exact BK449.out⟩, ⟨by (with_reducible repeat (first | refine blk_drewN ?_ _ | refine blk_drew ?_ | refine blk_alloc ?_ _)); exact BK450.out⟩, ⟨by repeat (first | (with_reducible first | exact HB.out | apply below_alloc | apply pw_below_drewN | apply below_drew1 | refine below_set ?_ GE397.out | refine below_set ?_ GE398.out | refine below_set ?_ GE449.out | refine below_set ?_ GE450.out) | exact HB.out)⟩⟩
                    · rw [if_neg c74] at H
                      have c74b0 : decide (x14_3 < (l2.length : Int)) = false := decide_eq_false c74
                      clear c74
                      (first | rw [c74b0] | (simp only [i64_w, i32_w]; rw [c74b0]) | skip)
                      have H' := Aside0.mk H
                      clear H
                      go_wp2
                      go_meet
                      case rel => exact ⟨_, (false), (by first | rfl | (simp; done) | (simp [*]; done)), H', ⟨by have := HK1.out; have := HJ5.out; have := HK3.out; first | omega | exact Nat.le_refl _⟩, ⟨by (with_reducible repeat (first | apply Kd.R_alloc | apply Kd.R_drewN | apply Kd.R_drew)); exact HO_398000.out⟩, ⟨by (with_reducible repeat (first | apply Kd.R_alloc | apply Kd.R_drewN | apply Kd.R_drew)); exact HO_399000.out⟩, ⟨by (with_reducible repeat (first | refine blk_drewN ?_ _ | refine blk_drew ?_ | refine blk_alloc ?_ _)); exact BK397.out⟩, ⟨by (with_reducible repeat (first | refine blk_drewN ?_ _ | refine blk_drew ?_ | refine blk_alloc ?_ _)); exact BK398.out⟩, ⟨by (with_reducible repeat (first | refine blk_drewN ?_ _ | refine blk_drew ?_ | refine blk_alloc ?_ _)); exact BK449.out⟩, ⟨by (with_reducible repeat (first | refine blk_drewN ?_ _ | refine blk_drew ?_ | refine blk_alloc ?_ _)); exact BK450.out⟩, ⟨by repeat (first | (with_reducible first | exact HB.out | apply below_alloc | apply pw_below_drewN | apply below_drew1 | refine below_set ?_ GE397.out | refine below_set ?_ GE398.out | refine below_set ?_ GE449.out | refine below_set ?_ GE450.out) | exact HB.out)⟩⟩
                  case rest =>
                    clear HC73
                    try clear c1
                    try clear c2
                    try clear p2
                    try clear c3
                    try clear p3
                    try clear q3
                    try clear hx3
                    try clear c4
                    try clear c5
                    try clear c6
                    try clear p6
                    try clear c7
                    try clear c8
                    try clear c9
                    try clear c10
                    try clear c11
                    try clear c11b0
                    try clear c11b1
                    try clear c15
                    try clear c17
                    try clear c28
                    try clear c28b0
                    try clear c28b1
                    try clear c29
                    try clear c32
                    try clear c32b0
                    try clear c32b1
                    try clear c34
                    try clear c34b0
                    try clear c34b1
                    try clear c36
                    try clear c37
                    try clear c38
                    try clear c39
                    try clear p39
                    try clear q39
                    try clear hx39
                    try clear c40
                    try clear c41
                    try clear c42
                    try clear c52
                    try clear c52b0
                    try clear c52b1
                    try clear c55
                    try clear c55b0
                    try clear c55b1
                    try clear c57
                    try clear c58
                    try clear p64
                    try clear c68
                    try clear c68b0
                    try clear c68b1
                    try clear c74
                    try clear c74b0
                    try clear hcz38_0
                    try clear hcz38_1
                    try clear hcz38_2
                    try clear hcz43_0
                    try clear hcz43_1
                    try clear hcz59_0
                    try clear hcz59_1
                    try clear hcz59_2
                    try clear hcz61_0
                    try clear hcz61_1
                    try clear hcz61_2
                    try clear hfz38_0
                    try clear hfz38_1
                    try clear hfz38_2
                    try clear hfz43_0
                    try clear hfz43_1
                    try clear hfz59_0
                    try clear hfz59_1
                    try clear hfz59_2
                    try clear hfz61_0
                    try clear hfz61_1
                    try clear hfz61_2
                    try clear hx399_0
                    try clear hx399_1
                    try clear hx399_2
                    try clear p2
                    try clear p3
                    try clear p39
                    try clear p399
                    try clear p6
                    try clear p64
                    try clear q3
                    try clear q39
                    try clear q399
                    obtain ⟨kq, x105_72, rfl, HA, HJ72, HO_398000, HO_399000, BK397, BK398, BK449, BK450, HB⟩ := hcut
                    cases kq with
                    | zero => exact absurd HA.out (by simp [portagelaw1_Writes.j3])
                    | succ kj72 =>
                      have H := HA.out
                      clear HA
                      simp only [portagelaw1_Writes.j3] at H
                      by_cases c75 : x105_72 = true
                      · subst c75
                        have H1 : (if 0 ≤ x14_3 then (if x14_3 < (l2.length : Int) then (if (rd l2 x14_3) = 99 then ((bits_Reader_Align.f x450000_3 x450001_3).bind fun bt463 => ((portagelaw0_Num.f bt463.1).bind fun t466 => (if t466 = 0 then ((portageref1_Reader_Align.f x451000_3 x451001_3).bind fun bt467 => (portagelaw1_Writes.l1 kj72 l2 (wrap64 (x14_3 + 1)) bt463.2.1 bt463.2.2 bt467.1 bt467.2)) else (none)))) else ((bits_Reader_Get.f kj72 x450000_3 x450001_3 (rd l2 x14_3)).bind fun bt470 => ((portageref1_Reader_Get.f kj72 x451000_3 x451001_3 (rd l2 x14_3)).bind fun bt475 => (if bt470.1 = bt475.1 then ((portagelaw0_Num.f bt470.2.1).bind fun t479 => (if t479 = bt475.2.1 then ((bits_Reader_At.f bt470.2.2.1 bt470.2.2.2).bind fun bt480 => (if bt480.1 = bt475.2.2.2 then (portagelaw1_Writes.l1 kj72 l2 (wrap64 (x14_3 + 1)) bt480.2.1 bt480.2.2 bt475.2.2.1 bt475.2.2.2) else (none))) else (none))) else (none))))) else (none)) else (none)) = some r := by rw [if_pos rfl] at H; exact H
                        clear H
                        have H := H1
                        clear H1
                        by_cases c76 : 0 ≤ x14_3
                        · rw [if_pos c76] at H
                          have c76b0 : decide (0 ≤ x14_3) = true := decide_eq_true c76
                          clear c76
                          by_cases c77 : x14_3 < (l2.length : Int)
                          · rw [if_pos c77] at H
                            have c77b0 : decide (x14_3 < (l2.length : Int)) = true := decide_eq_true c77
                            clear c77
                            by_cases c78 : (rd l2 x14_3) = 99
                            · rw [if_pos c78] at H
                              have c78b0 : ((rd l2 x14_3) == 99) = true := beq_iff_eq.mpr c78
                              have c78b1 : ((rd l2 x14_3) != 99) = false := bne_eq_false_iff_eq.mpr c78
                              clear c78
                              replace H := Option.bind_eq_some_iff.mp H
                              obtain ⟨⟨t463, t464, t465⟩, A790, H⟩ := H
                              replace H : ((portagelaw0_Num.f t463).bind fun t466 => (if t466 = 0 then ((portageref1_Reader_Align.f x451000_3 x451001_3).bind fun bt467 => (portagelaw1_Writes.l1 kj72 l2 (wrap64 (x14_3 + 1)) t464 t465 bt467.1 bt467.2)) else (none))) = some r := H
                              have A79 := Aside0.mk A790
                              clear A790
                              replace H := Option.bind_eq_some_iff.mp H
                              obtain ⟨t466, A800, H⟩ := H
                              replace H : (if t466 = 0 then ((portageref1_Reader_Align.f x451000_3 x451001_3).bind fun bt467 => (portagelaw1_Writes.l1 kj72 l2 (wrap64 (x14_3 + 1)) t464 t465 bt467.1 bt467.2)) else (none)) = some r := H
                              have A80 := Aside0.mk A800
                              clear A800
                              by_cases c81 : t466 = 0
                              · rw [if_pos c81] at H
                                have c81b0 : (t466 == 0) = true := beq_iff_eq.mpr c81
                                have c81b1 : (t466 != 0) = false := bne_eq_false_iff_eq.mpr c81
                                clear c81
                                replace H := Option.bind_eq_some_iff.mp H
                                obtain ⟨⟨t467, t468⟩, A820, H⟩ := H
                                replace H : (portagelaw1_Writes.l1 kj72 l2 (wrap64 (x14_3 + 1)) t464 t465 t467 t468) = some r := H
                                have A82 := Aside0.mk A820
                                clear A820
                                have H' := Aside0.mk H
                                clear H
                                have p462 : 0 ≤ (x14_3 : Int) := of_decide_eq_true (by first | (with_reducible assumption) | assumption)
                                have q462 : x14_3 < (l2.length : Int) := of_decide_eq_true (by first | (with_reducible assumption) | assumption)
                                obtain ⟨ad462, e462, hx462_0⟩ := Kd.at_int HR2.out x14_3 p462 q462
                                cases e462
                                replace hx462_0 := (HB.out.cell (World.block_lt_of_cell? w _ hx462_0)).trans hx462_0
                                replace p462 := eq_true p462
                                replace q462 := eq_true q462
                                go_wp2_with (first | ((with_reducible refine gate_callee (f := 46) rfl ?_); refine goesL_ (some 114) rfl rfl Try.func46 (by kernel_rfl) rfl #[.pointer (some ⟨gb449, 0, none⟩)] rfl (by (try simp only [List.map_toArray, List.map_cons, List.map_nil]); first | done | rfl | (simp only [List.length_drop, List.length_take]; rfl)) ?_; (with_reducible refine (bits_Reader_Align.calls (fun k_ => some k_ = (.slice none 0 0 : Value).ownBlock ∨ k_ = gb449) gb449 x450000_3 x450001_3 t463 t464 t465 w _ ?side1 ?side2 A79.out).mono ?_); (case side1 => repeat (first | (with_reducible first | exact HB.out | apply below_alloc | apply pw_below_drewN | apply below_drew1 | refine below_set ?_ GE397.out | refine below_set ?_ GE398.out | refine below_set ?_ GE449.out | refine below_set ?_ GE450.out) | exact HB.out)); (case side2 => exact ⟨(by (with_reducible repeat (first | refine blk_drewN ?_ _ | refine blk_drew ?_ | refine blk_alloc ?_ _)); exact BK449.out), GE449.out, .inr rfl⟩); rintro e w83 ⟨rfl, ⟨hbx_, _, _⟩, hb, hkp⟩; refine ⟨_, rfl, ?_⟩; have n0_ := Aside0.mk (Kd.R_mono (ok' := fun k_ => some k_ ≠ (v458 : Value).ownBlock) (Kd.R_keptB ((Kd.R_types HO_398000.out (by (with_reducible repeat (first | refine blk_drewN ?_ _ | refine blk_drew ?_ | refine blk_alloc ?_ _)); exact BK449.out) (by decide))) hkp (fun k_ hk_ hs_ => Or.elim hs_ (fun hs_ => (fun e_ => by simp [Value.ownBlock] at e_) hs_) (fun e_ => (hk_.2) e_))) (fun k_ hk_ => hk_.1.1)); have n1_ := Aside0.mk (Kd.R_mono (ok' := fun k_ => some k_ ≠ (v453 : Value).ownBlock) (Kd.R_keptB ((Kd.R_types HO_399000.out (by (with_reducible repeat (first | refine blk_drewN ?_ _ | refine blk_drew ?_ | refine blk_alloc ?_ _)); exact BK449.out) (by decide))) hkp (fun k_ hk_ hs_ => Or.elim hs_ (fun hs_ => (fun e_ => by simp [Value.ownBlock] at e_) hs_) (fun e_ => (hk_.2) e_))) (fun k_ hk_ => hk_.1.1)); have n2_ := Aside0.mk (blk_kept (by (with_reducible repeat (first | refine blk_drewN ?_ _ | refine blk_drew ?_ | refine blk_alloc ?_ _)); exact BK397.out) hkp (fun hs_ => Or.elim hs_ (fun hs_ => (fun e_ => by simp [Value.ownBlock] at e_) hs_) (fun e_ => NB397_449.out e_))); have n3_ := Aside0.mk (blk_kept (by (with_reducible repeat (first | refine blk_drewN ?_ _ | refine blk_drew ?_ | refine blk_alloc ?_ _)); exact BK398.out) hkp (fun hs_ => Or.elim hs_ (fun hs_ => (fun e_ => by simp [Value.ownBlock] at e_) hs_) (fun e_ => NB398_449.out e_))); have n4_ := Aside0.mk (hbx_); have n5_ := Aside0.mk (blk_kept (by (with_reducible repeat (first | refine blk_drewN ?_ _ | refine blk_drew ?_ | refine blk_alloc ?_ _)); exact BK450.out) hkp (fun hs_ => Or.elim hs_ (fun hs_ => (fun e_ => by simp [Value.ownBlock] at e_) hs_) (fun e_ => NB450_449.out e_))); have n6_ := Aside0.mk (hb); clear HO_398000; clear HO_399000; clear BK397; clear BK398; clear BK449; clear BK450; clear HB; have HO_398000 := n0_; have HO_399000 := n1_; have BK397 := n2_; have BK398 := n3_; have BK449 := n4_; have BK450 := n5_; have HB := n6_; clear n0_ n1_ n2_ n3_ n4_ n5_ n6_; (try clear hb); (try clear hkp); (try clear hbx_); (try clear hox_)) | ((with_reducible refine gate_callee (f := 29) rfl ?_); refine goesL_ (some 115) rfl rfl Try.func29 (by kernel_rfl) rfl #[.int .i64 t463] rfl (by (try simp only [List.map_toArray, List.map_cons, List.map_nil]); first | done | rfl | (simp only [List.length_drop, List.length_take]; rfl)) ?_; (with_reducible refine (portagelaw0_Num.calls t463 t466 _ A80.out).mono ?_); rintro e w' ⟨rfl, ⟨nd, rfl⟩⟩; refine ⟨_, rfl, ?_⟩) | ((with_reducible refine gate_callee (f := 47) rfl ?_); refine goesL_ (some 118) rfl rfl Try.func47 (by kernel_rfl) rfl #[.pointer (some ⟨gb450, 0, none⟩)] rfl (by (try simp only [List.map_toArray, List.map_cons, List.map_nil]); first | done | rfl | (simp only [List.length_drop, List.length_take]; rfl)) ?_; (with_reducible refine (portageref1_Reader_Align.calls (fun k_ => some k_ = (.slice none 0 0 : Value).ownBlock ∨ k_ = gb450) gb450 x451000_3 x451001_3 t467 t468 w _ ?side1 ?side2 A82.out).mono ?_); (case side1 => repeat (first | (with_reducible first | exact HB.out | apply below_alloc | apply pw_below_drewN | apply below_drew1 | refine below_set ?_ GE397.out | refine below_set ?_ GE398.out | refine below_set ?_ GE449.out | refine below_set ?_ GE450.out) | exact HB.out)); (case side2 => exact ⟨(by (with_reducible repeat (first | refine blk_drewN ?_ _ | refine blk_drew ?_ | refine blk_alloc ?_ _)); exact BK450.out), GE450.out, .inr rfl⟩); rintro e w84 ⟨rfl, ⟨hbx_, _, _⟩, hb, hkp⟩; refine ⟨_, rfl, ?_⟩; have n0_ := Aside0.mk (Kd.R_mono (ok' := fun k_ => some k_ ≠ (v458 : Value).ownBlock) (Kd.R_keptB ((Kd.R_types HO_398000.out (by (with_reducible repeat (first | refine blk_drewN ?_ _ | refine blk_drew ?_ | refine blk_alloc ?_ _)); exact BK450.out) (by decide))) hkp (fun k_ hk_ hs_ => Or.elim hs_ (fun hs_ => (fun e_ => by simp [Value.ownBlock] at e_) hs_) (fun e_ => (hk_.2) e_))) (fun k_ hk_ => hk_.1.1)); have n1_ := Aside0.mk (Kd.R_mono (ok' := fun k_ => some k_ ≠ (v453 : Value).ownBlock) (Kd.R_keptB ((Kd.R_types HO_399000.out (by (with_reducible repeat (first | refine blk_drewN ?_ _ | refine blk_drew ?_ | refine blk_alloc ?_ _)); exact BK450.out) (by decide))) hkp (fun k_ hk_ hs_ => Or.elim hs_ (fun hs_ => (fun e_ => by simp [Value.ownBlock] at e_) hs_) (fun e_ => (hk_.2) e_))) (fun k_ hk_ => hk_.1.1)); have n2_ := Aside0.mk (blk_kept (by (with_reducible repeat (first | refine blk_drewN ?_ _ | refine blk_drew ?_ | refine blk_alloc ?_ _)); exact BK397.out) hkp (fun hs_ => Or.elim hs_ (fun hs_ => (fun e_ => by simp [Value.ownBlock] at e_) hs_) (fun e_ => NB397_450.out e_))); have n3_ := Aside0.mk (blk_kept (by (with_reducible repeat (first | refine blk_drewN ?_ _ | refine blk_drew ?_ | refine blk_alloc ?_ _)); exact BK398.out) hkp (fun hs_ => Or.elim hs_ (fun hs_ => (fun e_ => by simp [Value.ownBlock] at e_) hs_) (fun e_ => NB398_450.out e_))); have n4_ := Aside0.mk (blk_kept (by (with_reducible repeat (first | refine blk_drewN ?_ _ | refine blk_drew ?_ | refine blk_alloc ?_ _)); exact BK449.out) hkp (fun hs_ => Or.elim hs_ (fun hs_ => (fun e_ => by simp [Value.ownBlock] at e_) hs_) (fun e_ => NB449_450.out e_))); have n5_ := Aside0.mk (hbx_); have n6_ := Aside0.mk (hb); clear HO_398000; clear HO_399000; clear BK397; clear BK398; clear BK449; clear BK450; clear HB; have HO_398000 := n0_; have HO_399000 := n1_; have BK397 := n2_; have BK398 := n3_; have BK449 := n4_; have BK450 := n5_; have HB := n6_; clear n0_ n1_ n2_ n3_ n4_ n5_ n6_; (try clear hb); (try clear hkp); (try clear hbx_); (try clear hox_)))
                                go_roundg kj72
                                case measure => have := HK1.out; have := HJ5.out; have := HK3.out; have := HJ72.out; omega
                                case rel => exact ⟨(wrap64 (x14_3 + 1)), (t464), (t465), (t467), (t468), (by first | rfl | (simp; done) | (simp [*]; done)), H', ⟨by have := HK1.out; have := HJ5.out; have := HK3.out; have := HJ72.out; omega⟩, ⟨by (with_reducible repeat (first | apply Kd.R_alloc | apply Kd.R_drewN | apply Kd.R_drew)); exact HO_398000.out⟩, ⟨by (with_reducible repeat (first | apply Kd.R_alloc | apply Kd.R_drewN | apply Kd.R_drew)); exact HO_399000.out⟩, ⟨by (with_reducible repeat (first | refine blk_drewN ?_ _ | refine blk_drew ?_ | refine blk_alloc ?_ _)); exact BK397.out⟩, ⟨by (with_reducible repeat (first | refine blk_drewN ?_ _ | refine blk_drew ?_ | refine blk_alloc ?_ _)); exact BK398.out⟩, ⟨by (with_reducible repeat (first | refine blk_drewN ?_ _ | refine blk_drew ?_ | refine blk_alloc ?_ _)); exact BK449.out⟩, ⟨by (with_reducible repeat (first | refine blk_drewN ?_ _ | refine blk_drew ?_ | refine blk_alloc ?_ _)); exact BK450.out⟩, ⟨by repeat (first | (with_reducible first | exact HB.out | apply below_alloc | apply pw_below_drewN | apply below_drew1 | refine below_set ?_ GE397.out | refine below_set ?_ GE398.out | refine below_set ?_ GE449.out | refine below_set ?_ GE450.out) | exact HB.out)⟩⟩
                              · rw [if_neg c81] at H
                                exact absurd H (by simp)
                            · rw [if_neg c78] at H
                              have c78b0 : ((rd l2 x14_3) == 99) = false := beq_eq_false_iff_ne.mpr c78
                              have c78b1 : ((rd l2 x14_3) != 99) = true := bne_iff_ne.mpr c78
                              replace H := Option.bind_eq_some_iff.mp H
                              obtain ⟨⟨t470, t471, t472, t473⟩, A850, H⟩ := H
                              replace H : ((portageref1_Reader_Get.f kj72 x451000_3 x451001_3 (rd l2 x14_3)).bind fun bt475 => (if t470 = bt475.1 then ((portagelaw0_Num.f t471).bind fun t479 => (if t479 = bt475.2.1 then ((bits_Reader_At.f t472 t473).bind fun bt480 => (if bt480.1 = bt475.2.2.2 then (portagelaw1_Writes.l1 kj72 l2 (wrap64 (x14_3 + 1)) bt480.2.1 bt480.2.2 bt475.2.2.1 bt475.2.2.2) else (none))) else (none))) else (none))) = some r := H
                              have A85 := Aside0.mk A850
                              clear A850
                              replace H := Option.bind_eq_some_iff.mp H
                              obtain ⟨⟨t475, t476, t477, t478⟩, A860, H⟩ := H
                              replace H : (if t470 = t475 then ((portagelaw0_Num.f t471).bind fun t479 => (if t479 = t476 then ((bits_Reader_At.f t472 t473).bind fun bt480 => (if bt480.1 = t478 then (portagelaw1_Writes.l1 kj72 l2 (wrap64 (x14_3 + 1)) bt480.2.1 bt480.2.2 t477 t478) else (none))) else (none))) else (none)) = some r := H
                              have A86 := Aside0.mk A860
                              clear A860
                              by_cases c87 : t470 = t475
                              · rw [if_pos c87] at H
                                have c87b0 : (t470 == t475) = true := beq_iff_eq.mpr c87
                                have c87b1 : (t470 != t475) = false := bne_eq_false_iff_eq.mpr c87
                                clear c87
                                replace H := Option.bind_eq_some_iff.mp H
                                obtain ⟨t479, A880, H⟩ := H
                                replace H : (if t479 = t476 then ((bits_Reader_At.f t472 t473).bind fun bt480 => (if bt480.1 = t478 then (portagelaw1_Writes.l1 kj72 l2 (wrap64 (x14_3 + 1)) bt480.2.1 bt480.2.2 t477 t478) else (none))) else (none)) = some r := H
                                have A88 := Aside0.mk A880
                                clear A880
                                by_cases c89 : t479 = t476
                                · rw [if_pos c89] at H
                                  have c89b0 : (t479 == t476) = true := beq_iff_eq.mpr c89
                                  have c89b1 : (t479 != t476) = false := bne_eq_false_iff_eq.mpr c89
                                  clear c89
                                  replace H := Option.bind_eq_some_iff.mp H
                                  obtain ⟨⟨t480, t481, t482⟩, A900, H⟩ := H
                                  replace H : (if t480 = t478 then (portagelaw1_Writes.l1 kj72 l2 (wrap64 (x14_3 + 1)) t481 t482 t477 t478) else (none)) = some r := H
                                  have A90 := Aside0.mk A900
                                  clear A900
                                  by_cases c91 : t480 = t478
                                  · rw [if_pos c91] at H
                                    have c91b0 : (t480 == t478) = true := beq_iff_eq.mpr c91
                                    have c91b1 : (t480 != t478) = false := bne_eq_false_iff_eq.mpr c91
                                    clear c91
                                    have H' := Aside0.mk H
                                    clear H
                                    have p462 : 0 ≤ (x14_3 : Int) := of_decide_eq_true (by first | (with_reducible assumption) | assumption)
                                    have q462 : x14_3 < (l2.length : Int) := of_decide_eq_true (by first | (with_reducible assumption) | assumption)
                                    obtain ⟨ad462, e462, hx462_0⟩ := Kd.at_int HR2.out x14_3 p462 q462
                                    cases e462
                                    replace hx462_0 := (HB.out.cell (World.block_lt_of_cell? w _ hx462_0)).trans hx462_0
                                    replace p462 := eq_true p462
                                    replace q462 := eq_true q462
                                    have p469 : 0 ≤ (x14_3 : Int) := of_decide_eq_true (by first | (with_reducible assumption) | assumption)
                                    have q469 : x14_3 < (l2.length : Int) := of_decide_eq_true (by first | (with_reducible assumption) | assumption)
                                    obtain ⟨ad469, e469, hx469_0⟩ := Kd.at_int HR2.out x14_3 p469 q469
                                    obtain rfl : ad462 = ad469 := (by injection e469)
                                    replace hx469_0 := (HB.out.cell (World.block_lt_of_cell? w _ hx469_0)).trans hx469_0
                                    replace p469 := eq_true p469
                                    replace q469 := eq_true q469
                                    try go_wp2_with (first | ((with_reducible refine gate_callee (f := 48) rfl ?_); refine goesL_ (some 125) rfl rfl Try.func48 (by kernel_rfl) rfl #[.pointer (some ⟨gb449, 0, none⟩), .int .i64 (rd l2 x14_3)] rfl (by (try simp only [List.map_toArray, List.map_cons, List.map_nil]); first | done | rfl | (simp only [List.length_drop, List.length_take]; rfl)) ?_; (with_reducible refine (bits_Reader_Get.calls kj72 (fun k_ => some k_ = (.slice none 0 0 : Value).ownBlock ∨ k_ = gb449) gb449 x450000_3 x450001_3 (rd l2 x14_3) t470 t471 t472 t473 w _ ?side1 ?side2 A85.out).mono ?_); (case side1 => repeat (first | (with_reducible first | exact HB.out | apply below_alloc | apply pw_below_drewN | apply below_drew1 | refine below_set ?_ GE397.out | refine below_set ?_ GE398.out | refine below_set ?_ GE449.out | refine below_set ?_ GE450.out) | exact HB.out)); (case side2 => exact ⟨(by (with_reducible repeat (first | refine blk_drewN ?_ _ | refine blk_drew ?_ | refine blk_alloc ?_ _)); exact BK449.out), GE449.out, .inr rfl⟩); rintro e w92 ⟨rfl, ⟨hbx_, _, _⟩, hb, hkp⟩; refine ⟨_, rfl, ?_⟩; have n0_ := Aside0.mk (Kd.R_mono (ok' := fun k_ => some k_ ≠ (v458 : Value).ownBlock) (Kd.R_keptB ((Kd.R_types HO_398000.out (by (with_reducible repeat (first | refine blk_drewN ?_ _ | refine blk_drew ?_ | refine blk_alloc ?_ _)); exact BK449.out) (by decide))) hkp (fun k_ hk_ hs_ => Or.elim hs_ (fun hs_ => (fun e_ => by simp [Value.ownBlock] at e_) hs_) (fun e_ => (hk_.2) e_))) (fun k_ hk_ => hk_.1.1)); have n1_ := Aside0.mk (Kd.R_mono (ok' := fun k_ => some k_ ≠ (v453 : Value).ownBlock) (Kd.R_keptB ((Kd.R_types HO_399000.out (by (with_reducible repeat (first | refine blk_drewN ?_ _ | refine blk_drew ?_ | refine blk_alloc ?_ _)); exact BK449.out) (by decide))) hkp (fun k_ hk_ hs_ => Or.elim hs_ (fun hs_ => (fun e_ => by simp [Value.ownBlock] at e_) hs_) (fun e_ => (hk_.2) e_))) (fun k_ hk_ => hk_.1.1)); have n2_ := Aside0.mk (blk_kept (by (with_reducible repeat (first | refine blk_drewN ?_ _ | refine blk_drew ?_ | refine blk_alloc ?_ _)); exact BK397.out) hkp (fun hs_ => Or.elim hs_ (fun hs_ => (fun e_ => by simp [Value.ownBlock] at e_) hs_) (fun e_ => NB397_449.out e_))); have n3_ := Aside0.mk (blk_kept (by (with_reducible repeat (first | refine blk_drewN ?_ _ | refine blk_drew ?_ | refine blk_alloc ?_ _)); exact BK398.out) hkp (fun hs_ => Or.elim hs_ (fun hs_ => (fun e_ => by simp [Value.ownBlock] at e_) hs_) (fun e_ => NB398_449.out e_))); have n4_ := Aside0.mk (hbx_); have n5_ := Aside0.mk (blk_kept (by (with_reducible repeat (first | refine blk_drewN ?_ _ | refine blk_drew ?_ | refine blk_alloc ?_ _)); exact BK450.out) hkp (fun hs_ => Or.elim hs_ (fun hs_ => (fun e_ => by simp [Value.ownBlock] at e_) hs_) (fun e_ => NB450_449.out e_))); have n6_ := Aside0.mk (hb); clear HO_398000; clear HO_399000; clear BK397; clear BK398; clear BK449; clear BK450; clear HB; have HO_398000 := n0_; have HO_399000 := n1_; have BK397 := n2_; have BK398 := n3_; have BK449 := n4_; have BK450 := n5_; have HB := n6_; clear n0_ n1_ n2_ n3_ n4_ n5_ n6_; (try clear hb); (try clear hkp); (try clear hbx_); (try clear hox_); have p474 : 0 ≤ (x14_3 : Int) := of_decide_eq_true (by first | (with_reducible assumption) | assumption); have q474 : x14_3 < (l2.length : Int) := of_decide_eq_true (by first | (with_reducible assumption) | assumption); obtain ⟨ad474, e474, hx474_0⟩ := Kd.at_int HR2.out x14_3 p474 q474; obtain rfl : ad462 = ad474 := (by injection e474); replace hx474_0 := (HB.out.cell (World.block_lt_of_cell? w _ hx474_0)).trans hx474_0; replace p474 := eq_true p474; replace q474 := eq_true q474) | ((with_reducible refine gate_callee (f := 49) rfl ?_); refine goesL_ (some 134) rfl rfl Try.func49 (by kernel_rfl) rfl #[.pointer (some ⟨gb450, 0, none⟩), .int .i64 (rd l2 x14_3)] rfl (by (try simp only [List.map_toArray, List.map_cons, List.map_nil]); first | done | rfl | (simp only [List.length_drop, List.length_take]; rfl)) ?_; (with_reducible refine (portageref1_Reader_Get.calls kj72 (fun k_ => some k_ = (.slice none 0 0 : Value).ownBlock ∨ k_ = gb450) gb450 x451000_3 x451001_3 (rd l2 x14_3) t475 t476 t477 t478 w _ ?side1 ?side2 A86.out).mono ?_); (case side1 => repeat (first | (with_reducible first | exact HB.out | apply below_alloc | apply pw_below_drewN | apply below_drew1 | refine below_set ?_ GE397.out | refine below_set ?_ GE398.out | refine below_set ?_ GE449.out | refine below_set ?_ GE450.out) | exact HB.out)); (case side2 => exact ⟨(by (with_reducible repeat (first | refine blk_drewN ?_ _ | refine blk_drew ?_ | refine blk_alloc ?_ _)); exact BK450.out), GE450.out, .inr rfl⟩); rintro e w93 ⟨rfl, ⟨hbx_, _, _⟩, hb, hkp⟩; refine ⟨_, rfl, ?_⟩; have n0_ := Aside0.mk (Kd.R_mono (ok' := fun k_ => some k_ ≠ (v458 : Value).ownBlock) (Kd.R_keptB ((Kd.R_types HO_398000.out (by (with_reducible repeat (first | refine blk_drewN ?_ _ | refine blk_drew ?_ | refine blk_alloc ?_ _)); exact BK450.out) (by decide))) hkp (fun k_ hk_ hs_ => Or.elim hs_ (fun hs_ => (fun e_ => by simp [Value.ownBlock] at e_) hs_) (fun e_ => (hk_.2) e_))) (fun k_ hk_ => hk_.1.1)); have n1_ := Aside0.mk (Kd.R_mono (ok' := fun k_ => some k_ ≠ (v453 : Value).ownBlock) (Kd.R_keptB ((Kd.R_types HO_399000.out (by (with_reducible repeat (first | refine blk_drewN ?_ _ | refine blk_drew ?_ | refine blk_alloc ?_ _)); exact BK450.out) (by decide))) hkp (fun k_ hk_ hs_ => Or.elim hs_ (fun hs_ => (fun e_ => by simp [Value.ownBlock] at e_) hs_) (fun e_ => (hk_.2) e_))) (fun k_ hk_ => hk_.1.1)); have n2_ := Aside0.mk (blk_kept (by (with_reducible repeat (first | refine blk_drewN ?_ _ | refine blk_drew ?_ | refine blk_alloc ?_ _)); exact BK397.out) hkp (fun hs_ => Or.elim hs_ (fun hs_ => (fun e_ => by simp [Value.ownBlock] at e_) hs_) (fun e_ => NB397_450.out e_))); have n3_ := Aside0.mk (blk_kept (by (with_reducible repeat (first | refine blk_drewN ?_ _ | refine blk_drew ?_ | refine blk_alloc ?_ _)); exact BK398.out) hkp (fun hs_ => Or.elim hs_ (fun hs_ => (fun e_ => by simp [Value.ownBlock] at e_) hs_) (fun e_ => NB398_450.out e_))); have n4_ := Aside0.mk (blk_kept (by (with_reducible repeat (first | refine blk_drewN ?_ _ | refine blk_drew ?_ | refine blk_alloc ?_ _)); exact BK449.out) hkp (fun hs_ => Or.elim hs_ (fun hs_ => (fun e_ => by simp [Value.ownBlock] at e_) hs_) (fun e_ => NB449_450.out e_))); have n5_ := Aside0.mk (hbx_); have n6_ := Aside0.mk (hb); clear HO_398000; clear HO_399000; clear BK397; clear BK398; clear BK449; clear BK450; clear HB; have HO_398000 := n0_; have HO_399000 := n1_; have BK397 := n2_; have BK398 := n3_; have BK449 := n4_; have BK450 := n5_; have HB := n6_; clear n0_ n1_ n2_ n3_ n4_ n5_ n6_; (try clear hb); (try clear hkp); (try clear hbx_); (try clear hox_)))
                                    have n0_ := Aside0.mk (Kd.R_drew HO_398000.out)
                                    have n1_ := Aside0.mk (Kd.R_drew HO_399000.out)
                                    have n2_ := Aside0.mk (blk_drew BK397.out)
                                    have n3_ := Aside0.mk (blk_drew BK398.out)
                                    have n4_ := Aside0.mk (blk_drew BK449.out)
                                    have n5_ := Aside0.mk (blk_drew BK450.out)
                                    have n6_ := Aside0.mk (below_drew1 HB.out)
                                    clear HO_398000
                                    clear HO_399000
                                    clear BK397
                                    clear BK398
                                    clear BK449
                                    clear BK450
                                    clear HB
                                    have HO_398000 := n0_
                                    have HO_399000 := n1_
                                    have BK397 := n2_
                                    have BK398 := n3_
                                    have BK449 := n4_
                                    have BK450 := n5_
                                    have HB := n6_
                                    clear n0_ n1_ n2_ n3_ n4_ n5_ n6_
                                    refine start_ (n := 18) (S := fun w' => w'.cell? ⟨gb450, 0, none⟩ = some (.string t477) ∧ w'.cell? ⟨gb450, 1, none⟩ = some (.int .i64 t478)) (ds := []) #[false, false, false, false, false, false, false, false, false, false, false, false, false, false, false, false, false, false] (by kernel_rfl) rfl rfl ⟨(blk_cell BK450.out 0).trans rfl, (blk_cell BK450.out 1).trans rfl⟩ (fun hHeld => ?_); refine with_tabW portagelaw1_Writes.tab35 portagelaw1_Writes.bits35 (fun HT_ HW_ => ?_)
                                    generalize w93.drew = w94 at HO_398000 HO_399000 BK397 BK398 BK449 BK450 HB hHeld ⊢
                                    refine pure_ (i := 0) (N := some 137) (v := ?_) (a' := ?_) #[true, false, false, false, false, false, false, false, false, false, false, false, false, false, false, false, false, false] rfl rfl (any_of HT_.out (by kernel_rfl)) (fun _ _ _ h => h) (Or.inl ⟨by rfl, ?_⟩) ?_ ?_
                                    rotate_left
                                    · intro w'
                                      go_simp
                                      with_reducible rfl
                                    rotate_left
                                    · simp only [Act.put, List.setIfInBounds_toArray, List.set_cons_zero, List.set_cons_succ, i64_w, i32_w, IntKind.wrap_u8, IntKind.wrap_u32]
                                      rfl
                                    refine pure_ (i := 1) (N := some 138) (v := ?_) (a' := ?_) #[true, true, false, false, false, false, false, false, false, false, false, false, false, false, false, false, false, false] rfl rfl (any_of HT_.out (by kernel_rfl)) (fun _ _ _ h => h) (Or.inl ⟨by rfl, ?_⟩) ?_ ?_
                                    rotate_left
                                    · intro w'
                                      go_simp
                                      with_reducible rfl
                                    rotate_left
                                    · simp only [Act.put, List.setIfInBounds_toArray, List.set_cons_zero, List.set_cons_succ, i64_w, i32_w, IntKind.wrap_u8, IntKind.wrap_u32]
                                      rfl
                                    refine pure_ (i := 2) (N := some 139) (v := ?_) (a' := ?_) #[true, true, true, false, false, false, false, false, false, false, false, false, false, false, false, false, false, false] rfl rfl (any_of HT_.out (by kernel_rfl)) (fun _ _ _ h => h) (Or.inl ⟨by rfl, ?_⟩) ?_ ?_
                                    rotate_left
                                    · intro w'
                                      go_simp
                                      with_reducible rfl
                                    rotate_left
                                    · simp only [Act.put, List.setIfInBounds_toArray, List.set_cons_zero, List.set_cons_succ, i64_w, i32_w, IntKind.wrap_u8, IntKind.wrap_u32]
                                      rfl
                                    refine pure_ (i := 3) (N := some 140) (v := ?_) (a' := ?_) #[true, true, true, true, false, false, false, false, false, false, false, false, false, false, false, false, false, false] rfl rfl (any_of HT_.out (by kernel_rfl)) (fun _ _ _ h => h) (Or.inl ⟨by rfl, ?_⟩) ?_ ?_
                                    rotate_left
                                    · intro w'
                                      go_simp
                                      with_reducible rfl
                                    rotate_left
                                    · simp only [Act.put, List.setIfInBounds_toArray, List.set_cons_zero, List.set_cons_succ, i64_w, i32_w, IntKind.wrap_u8, IntKind.wrap_u32]
                                      rfl
                                    refine pure_ (i := 4) (N := some 141) (v := ?_) (a' := ?_) #[true, true, true, true, true, false, false, false, false, false, false, false, false, false, false, false, false, false] rfl rfl (any_of HT_.out (by kernel_rfl)) (fun _ _ _ h => h) (Or.inl ⟨by rfl, ?_⟩) ?_ ?_
                                    rotate_left
                                    · intro w'
                                      go_simp
                                      with_reducible rfl
                                    rotate_left
                                    · simp only [Act.put, List.setIfInBounds_toArray, List.set_cons_zero, List.set_cons_succ, i64_w, i32_w, IntKind.wrap_u8, IntKind.wrap_u32]
                                      rfl
                                    refine pure_ (i := 6) (N := some 143) (v := ?_) (a' := ?_) #[true, true, true, true, true, false, true, false, false, false, false, false, false, false, false, false, false, false] rfl rfl (any_of HT_.out (by kernel_rfl)) (fun _ _ _ h => h) (Or.inl ⟨by rfl, ?_⟩) ?_ ?_
                                    rotate_left
                                    · intro w'
                                      go_simp
                                      with_reducible rfl
                                    rotate_left
                                    · simp only [Act.put, List.setIfInBounds_toArray, List.set_cons_zero, List.set_cons_succ, i64_w, i32_w, IntKind.wrap_u8, IntKind.wrap_u32]
                                      rfl
                                    refine one_ (i := 5) (N := some 142) #[true, true, true, true, true, true, true, false, false, false, false, false, false, false, false, false, false, false] rfl rfl (one_of HT_.out (by kernel_rfl)) (by decide) (fun K hK => ?_)
                                    refine goes_ Try.func29 (by kernel_rfl) rfl #[.int .i64 t471] (by rfl) rfl rfl (by (try simp only [List.map_toArray, List.map_cons, List.map_nil]); first | done | rfl | (simp only [List.length_drop, List.length_take]; rfl)) ?_
                                    with_reducible refine (portagelaw0_Num.calls t471 t479 _ A88.out).mono ?_
                                    rintro e w' ⟨rfl, ⟨nd, rfl⟩⟩
                                    refine ⟨_, rfl, ?_⟩
                                    refine hK.out _ _ ⟨(blk_cell BK450.out 0).trans rfl, (blk_cell BK450.out 1).trans rfl⟩ (fun hHeld => ?_)
                                    clear hK K
                                    refine norm_ (a' := ?_) ?_ ?_
                                    rotate_left
                                    · show Act.put _ (some 142) _ = _
                                      simp only [Act.put, List.setIfInBounds_toArray, List.set_cons_zero, List.set_cons_succ, i64_w, i32_w, IntKind.wrap_u8, IntKind.wrap_u32]
                                      rfl
                                    refine pure_ (i := 7) (N := some 144) (v := ?_) (a' := ?_) #[true, true, true, true, true, true, true, true, false, false, false, false, false, false, false, false, false, false] rfl rfl (any_of HT_.out (by kernel_rfl)) (fun _ _ _ h => h) (Or.inl ⟨by rfl, ?_⟩) ?_ ?_
                                    rotate_left
                                    · intro w'
                                      go_simp
                                      with_reducible rfl
                                    rotate_left
                                    · simp only [Act.put, List.setIfInBounds_toArray, List.set_cons_zero, List.set_cons_succ, i64_w, i32_w, IntKind.wrap_u8, IntKind.wrap_u32]
                                      rfl
                                    refine pure_ (i := 8) (N := some 145) (v := ?_) (a' := ?_) #[true, true, true, true, true, true, true, true, true, false, false, false, false, false, false, false, false, false] rfl rfl (any_of HT_.out (by kernel_rfl)) (fun _ _ _ h => h) (Or.inl ⟨by rfl, ?_⟩) ?_ ?_
                                    rotate_left
                                    · intro w'
                                      go_simp
                                      with_reducible rfl
                                    rotate_left
                                    · simp only [Act.put, List.setIfInBounds_toArray, List.set_cons_zero, List.set_cons_succ, i64_w, i32_w, IntKind.wrap_u8, IntKind.wrap_u32]
                                      rfl
                                    refine pure_ (i := 9) (N := some 146) (v := ?_) (a' := ?_) #[true, true, true, true, true, true, true, true, true, true, false, false, false, false, false, false, false, false] rfl rfl (any_of HT_.out (by kernel_rfl)) (fun _ _ _ h => h) (Or.inl ⟨by rfl, ?_⟩) ?_ ?_
                                    rotate_left
                                    · intro w'
                                      go_simp
                                      with_reducible rfl
                                    rotate_left
                                    · simp only [Act.put, List.setIfInBounds_toArray, List.set_cons_zero, List.set_cons_succ, i64_w, i32_w, IntKind.wrap_u8, IntKind.wrap_u32]
                                      rfl
                                    refine pure_ (i := 10) (N := some 147) (v := ?_) (a' := ?_) #[true, true, true, true, true, true, true, true, true, true, true, false, false, false, false, false, false, false] rfl rfl (any_of HT_.out (by kernel_rfl)) (fun _ _ _ h => h) (Or.inl ⟨by rfl, ?_⟩) ?_ ?_
                                    rotate_left
                                    · intro w'
                                      go_simp
                                      with_reducible rfl
                                    rotate_left
                                    · simp only [Act.put, List.setIfInBounds_toArray, List.set_cons_zero, List.set_cons_succ, i64_w, i32_w, IntKind.wrap_u8, IntKind.wrap_u32]
                                      rfl
                                    refine pure_ (i := 12) (N := some 149) (v := ?_) (a' := ?_) #[true, true, true, true, true, true, true, true, true, true, true, false, true, false, false, false, false, false] rfl rfl (any_of HT_.out (by kernel_rfl)) (fun _ _ _ h => h) (Or.inl ⟨by rfl, ?_⟩) ?_ ?_
                                    rotate_left
                                    · intro w'
                                      go_simp
                                      with_reducible rfl
                                    rotate_left
                                    · simp only [Act.put, List.setIfInBounds_toArray, List.set_cons_zero, List.set_cons_succ, i64_w, i32_w, IntKind.wrap_u8, IntKind.wrap_u32]
                                      rfl
                                    refine pure_ (i := 13) (N := some 150) (v := ?_) (a' := ?_) #[true, true, true, true, true, true, true, true, true, true, true, false, true, true, false, false, false, false] rfl rfl (any_of HT_.out (by kernel_rfl)) (fun _ _ _ h => h) (Or.inl ⟨by rfl, ?_⟩) ?_ ?_
                                    rotate_left
                                    · intro w'
                                      go_simp
                                      with_reducible rfl
                                    rotate_left
                                    · simp only [Act.put, List.setIfInBounds_toArray, List.set_cons_zero, List.set_cons_succ, i64_w, i32_w, IntKind.wrap_u8, IntKind.wrap_u32]
                                      rfl
                                    refine pure_ (i := 14) (N := some 151) (v := ?_) (a' := ?_) #[true, true, true, true, true, true, true, true, true, true, true, false, true, true, true, false, false, false] rfl rfl (any_of HT_.out (by kernel_rfl)) (fun _ _ _ h => h) (Or.inl ⟨by rfl, ?_⟩) ?_ ?_
                                    rotate_left
                                    · intro w'
                                      go_simp
                                      with_reducible rfl
                                    rotate_left
                                    · simp only [Act.put, List.setIfInBounds_toArray, List.set_cons_zero, List.set_cons_succ, i64_w, i32_w, IntKind.wrap_u8, IntKind.wrap_u32]
                                      rfl
                                    refine take_ (i := 15) (N := some 152) (v := ?_) (a' := ?_) #[true, true, true, true, true, true, true, true, true, true, true, false, true, true, true, true, false, false] rfl rfl (take_ofW HT_.out HW_.out (by kernel_rfl)) (fun _ _ _ h => h) (Or.inl ⟨by rfl, ?_⟩) hHeld ?_ ?_
                                    rotate_left
                                    · rintro w' ⟨s0, s1⟩
                                      go_simp
                                      with_reducible rfl
                                    rotate_left
                                    · simp only [Act.put, List.setIfInBounds_toArray, List.set_cons_zero, List.set_cons_succ, i64_w, i32_w, IntKind.wrap_u8, IntKind.wrap_u32]
                                      rfl
                                    refine one_ (i := 11) (N := some 148) #[true, true, true, true, true, true, true, true, true, true, true, true, true, true, true, true, false, false] rfl rfl (one_of HT_.out (by kernel_rfl)) (by decide) (fun K hK => ?_)
                                    refine goes_ Try.func50 (by kernel_rfl) rfl #[.pointer (some ⟨gb449, 0, none⟩)] (by rfl) rfl rfl (by (try simp only [List.map_toArray, List.map_cons, List.map_nil]); first | done | rfl | (simp only [List.length_drop, List.length_take]; rfl)) ?_
                                    with_reducible refine (bits_Reader_At.calls (fun k_ => some k_ = (.slice none 0 0 : Value).ownBlock ∨ k_ = gb449) gb449 t472 t473 t480 t481 t482 w _ ?side1 ?side2 A90.out).mono ?_
                                    (case side1 => repeat (first | (with_reducible first | exact HB.out | apply below_alloc | apply pw_below_drewN | apply below_drew1 | refine below_set ?_ GE397.out | refine below_set ?_ GE398.out | refine below_set ?_ GE449.out | refine below_set ?_ GE450.out) | exact HB.out))
                                    (case side2 => exact ⟨(by (with_reducible repeat (first | refine blk_drewN ?_ _ | refine blk_drew ?_ | refine blk_alloc ?_ _)); exact BK449.out), GE449.out, .inr rfl⟩)
                                    rintro e w95 ⟨rfl, ⟨hbx_, _, _⟩, hb, hkp⟩
                                    refine ⟨_, rfl, ?_⟩
                                    have n0_ := Aside0.mk (Kd.R_mono (ok' := fun k_ => some k_ ≠ (v458 : Value).ownBlock) (Kd.R_keptB ((Kd.R_types HO_398000.out (by (with_reducible repeat (first | refine blk_drewN ?_ _ | refine blk_drew ?_ | refine blk_alloc ?_ _)); exact BK449.out) (by decide))) hkp (fun k_ hk_ hs_ => Or.elim hs_ (fun hs_ => (fun e_ => by simp [Value.ownBlock] at e_) hs_) (fun e_ => (hk_.2) e_))) (fun k_ hk_ => hk_.1.1))
                                    have n1_ := Aside0.mk (Kd.R_mono (ok' := fun k_ => some k_ ≠ (v453 : Value).ownBlock) (Kd.R_keptB ((Kd.R_types HO_399000.out (by (with_reducible repeat (first | refine blk_drewN ?_ _ | refine blk_drew ?_ | refine blk_alloc ?_ _)); exact BK449.out) (by decide))) hkp (fun k_ hk_ hs_ => Or.elim hs_ (fun hs_ => (fun e_ => by simp [Value.ownBlock] at e_) hs_) (fun e_ => (hk_.2) e_))) (fun k_ hk_ => hk_.1.1))
                                    have n2_ := Aside0.mk (blk_kept (by (with_reducible repeat (first | refine blk_drewN ?_ _ | refine blk_drew ?_ | refine blk_alloc ?_ _)); exact BK397.out) hkp (fun hs_ => Or.elim hs_ (fun hs_ => (fun e_ => by simp [Value.ownBlock] at e_) hs_) (fun e_ => NB397_449.out e_)))
                                    have n3_ := Aside0.mk (blk_kept (by (with_reducible repeat (first | refine blk_drewN ?_ _ | refine blk_drew ?_ | refine blk_alloc ?_ _)); exact BK398.out) hkp (fun hs_ => Or.elim hs_ (fun hs_ => (fun e_ => by simp [Value.ownBlock] at e_) hs_) (fun e_ => NB398_449.out e_)))
                                    have n4_ := Aside0.mk (hbx_)
                                    have n5_ := Aside0.mk (blk_kept (by (with_reducible repeat (first | refine blk_drewN ?_ _ | refine blk_drew ?_ | refine blk_alloc ?_ _)); exact BK450.out) hkp (fun hs_ => Or.elim hs_ (fun hs_ => (fun e_ => by simp [Value.ownBlock] at e_) hs_) (fun e_ => NB450_449.out e_)))
                                    have n6_ := Aside0.mk (hb)
                                    clear HO_398000
                                    clear HO_399000
                                    clear BK397
                                    clear BK398
                                    clear BK449
                                    clear BK450
                                    clear HB
                                    have HO_398000 := n0_
                                    have HO_399000 := n1_
                                    have BK397 := n2_
                                    have BK398 := n3_
                                    have BK449 := n4_
                                    have BK450 := n5_
                                    have HB := n6_
                                    clear n0_ n1_ n2_ n3_ n4_ n5_ n6_
                                    (try clear hb)
                                    (try clear hkp)
                                    (try clear hbx_)
                                    (try clear hox_)
                                    refine hK.out _ _ ⟨(blk_cell BK450.out 0).trans rfl, (blk_cell BK450.out 1).trans rfl⟩ (fun hHeld => ?_)
                                    clear hK K
                                    refine norm_ (a' := ?_) ?_ ?_
                                    rotate_left
                                    · show Act.put _ (some 148) _ = _
                                      simp only [Act.put, List.setIfInBounds_toArray, List.set_cons_zero, List.set_cons_succ, i64_w, i32_w, IntKind.wrap_u8, IntKind.wrap_u32]
                                      rfl
                                    refine pure_ (i := 16) (N := some 153) (v := ?_) (a' := ?_) #[true, true, true, true, true, true, true, true, true, true, true, true, true, true, true, true, true, false] rfl rfl (any_of HT_.out (by kernel_rfl)) (fun _ _ _ h => h) (Or.inl ⟨by rfl, ?_⟩) ?_ ?_
                                    rotate_left
                                    · intro w'
                                      go_simp
                                      with_reducible rfl
                                    rotate_left
                                    · simp only [Act.put, List.setIfInBounds_toArray, List.set_cons_zero, List.set_cons_succ, i64_w, i32_w, IntKind.wrap_u8, IntKind.wrap_u32]
                                      rfl
                                    refine pure_ (i := 17) (N := some 154) (v := ?_) (a' := ?_) #[true, true, true, true, true, true, true, true, true, true, true, true, true, true, true, true, true, true] rfl rfl (any_of HT_.out (by kernel_rfl)) (fun _ _ _ h => h) (Or.inl ⟨by rfl, ?_⟩) ?_ ?_
                                    rotate_left
                                    · intro w'
                                      go_simp
                                      with_reducible rfl
                                    rotate_left
                                    · simp only [Act.put, List.setIfInBounds_toArray, List.set_cons_zero, List.set_cons_succ, i64_w, i32_w, IntKind.wrap_u8, IntKind.wrap_u32]
                                      rfl
                                    refine done_ (done_of HT_.out (by kernel_rfl)) ?_
                                    try go_wp2
                                    go_roundg kj72
                                    case measure => have := HK1.out; have := HJ5.out; have := HK3.out; have := HJ72.out; omega
                                    case rel => exact ⟨(wrap64 (x14_3 + 1)), (t481), (t482), (t477), (t478), (by first | rfl | (simp; done) | (simp [*]; done)), H', ⟨by have := HK1.out; have := HJ5.out; have := HK3.out; have := HJ72.out; omega⟩, ⟨by (with_reducible repeat (first | apply Kd.R_alloc | apply Kd.R_drewN | apply Kd.R_drew)); exact HO_398000.out⟩, ⟨by (with_reducible repeat (first | apply Kd.R_alloc | apply Kd.R_drewN | apply Kd.R_drew)); exact HO_399000.out⟩, ⟨by (with_reducible repeat (first | refine blk_drewN ?_ _ | refine blk_drew ?_ | refine blk_alloc ?_ _)); exact BK397.out⟩, ⟨by (with_reducible repeat (first | refine blk_drewN ?_ _ | refine blk_drew ?_ | refine blk_alloc ?_ _)); exact BK398.out⟩, ⟨by (with_reducible repeat (first | refine blk_drewN ?_ _ | refine blk_drew ?_ | refine blk_alloc ?_ _)); exact BK449.out⟩, ⟨by (with_reducible repeat (first | refine blk_drewN ?_ _ | refine blk_drew ?_ | refine blk_alloc ?_ _)); exact BK450.out⟩, ⟨by repeat (first | (with_reducible first | exact HB.out | apply below_alloc | apply pw_below_drewN | apply below_drew1 | refine below_set ?_ GE397.out | refine below_set ?_ GE398.out | refine below_set ?_ GE449.out | refine below_set ?_ GE450.out) | exact HB.out)⟩⟩
                                  · rw [if_neg c91] at H
                                    exact absurd H (by simp)
                                · rw [if_neg c89] at H
                                  have c89b0 : (t479 == t476) = false := beq_eq_false_iff_ne.mpr c89
                                  have c89b1 : (t479 != t476) = true := bne_iff_ne.mpr c89
                                  exact absurd H (by simp)
                              · rw [if_neg c87] at H
                                have c87b0 : (t470 == t475) = false := beq_eq_false_iff_ne.mpr c87
                                have c87b1 : (t470 != t475) = true := bne_iff_ne.mpr c87
                                exact absurd H (by simp)
                          · rw [if_neg c77] at H
                            exact absurd H (by simp)
                        · rw [if_neg c76] at H
                          exact absurd H (by simp)
                      · replace c75 := Bool.eq_false_iff.mpr c75
                        subst c75
                        have H1 : ((portagelaw1_awake.f kj72).bind fun t461 => (some t461)) = some r := by rw [if_neg (show ¬ (false = true) by decide)] at H; exact H
                        clear H
                        have H := H1
                        clear H1
                        replace H := Option.bind_eq_some_iff.mp H
                        obtain ⟨t461, A960, H⟩ := H
                        replace H : (some t461) = some r := H
                        have A96 := Aside0.mk A960
                        clear A960
                        obtain rfl := Option.some.inj H
                        go_wp2_with (first | ((with_reducible refine gate_callee (f := 51) rfl ?_); refine goesL_ (some 155) rfl rfl Try.func51 (by kernel_rfl) rfl #[] rfl (by (try simp only [List.map_toArray, List.map_cons, List.map_nil]); first | done | rfl | (simp only [List.length_drop, List.length_take]; rfl)) ?_; (with_reducible refine (portagelaw1_awake.calls kj72  t461 _ A96.out).mono ?_); rintro e w97 ⟨rfl, hb⟩; refine ⟨_, rfl, ?_⟩; have n0_ := Aside0.mk (Kd.R_below (by (with_reducible repeat (first | apply Kd.R_alloc | apply Kd.R_drewN | apply Kd.R_drew)); exact HO_398000.out) hb); have n1_ := Aside0.mk (Kd.R_below (by (with_reducible repeat (first | apply Kd.R_alloc | apply Kd.R_drewN | apply Kd.R_drew)); exact HO_399000.out) hb); have n2_ := Aside0.mk (blk_below (g := gb397) (o := .cells #[v453, .int .i64 t455] 103 (0, 0)) (by (with_reducible repeat (first | refine blk_drewN ?_ _ | refine blk_drew ?_ | refine blk_alloc ?_ _)); exact BK397.out) hb); have n3_ := Aside0.mk (blk_below (g := gb398) (o := .cells #[v458, .int .i64 t460] 56 (0, 0)) (by (with_reducible repeat (first | refine blk_drewN ?_ _ | refine blk_drew ?_ | refine blk_alloc ?_ _)); exact BK398.out) hb); have n4_ := Aside0.mk (blk_below (g := gb449) (o := .cells #[.string x450000_3, .int .i64 x450001_3] 107 (0, 0)) (by (with_reducible repeat (first | refine blk_drewN ?_ _ | refine blk_drew ?_ | refine blk_alloc ?_ _)); exact BK449.out) hb); have n5_ := Aside0.mk (blk_below (g := gb450) (o := .cells #[.string x451000_3, .int .i64 x451001_3] 69 (0, 0)) (by (with_reducible repeat (first | refine blk_drewN ?_ _ | refine blk_drew ?_ | refine blk_alloc ?_ _)); exact BK450.out) hb); have n6_ := Aside0.mk (below_step (by repeat (first | (with_reducible first | exact HB.out | apply below_alloc | apply pw_below_drewN | apply below_drew1 | refine below_set ?_ GE397.out | refine below_set ?_ GE398.out | refine below_set ?_ GE449.out | refine below_set ?_ GE450.out) | exact HB.out)) hb); clear HO_398000; clear HO_399000; clear BK397; clear BK398; clear BK449; clear BK450; clear HB; have HO_398000 := n0_; have HO_399000 := n1_; have BK397 := n2_; have BK398 := n3_; have BK449 := n4_; have BK450 := n5_; have HB := n6_; clear n0_ n1_ n2_ n3_ n4_ n5_ n6_; (try clear hb); (try clear hb2); (try clear hk); (try clear hi)))
                        go_ret
                        exact ⟨by first | rfl | (simp [errW_none, errW_some] <;> rfl) | (simp [*, errW_none, errW_some] <;> rfl), by repeat (first | (with_reducible first | exact HB.out | apply below_alloc | apply pw_below_drewN | apply below_drew1 | refine below_set ?_ GE397.out | refine below_set ?_ GE398.out | refine below_set ?_ GE449.out | refine below_set ?_ GE450.out) | exact HB.out)⟩
            · rw [if_neg c68] at H
              exact absurd H (by simp)

end Go.Proofs.Ytbifignggnfodaa.BW
