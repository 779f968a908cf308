-- Written by a program of this session out of the translation (a changed copy of the kit's printer).
import Derived.Test.YtneogampbohfnaaDoorZP0
import Derived.Test.YtneogampbohfnaaDoorZP6
import Derived.Test.YtneogampbohfnaaDoorZP7
namespace Go.Proofs.YtneogampbohfnaaDoor.ZP
open Go.Proofs.YtneogampbohfnaaDoor.ZB (S39 z39 k39 k39_open k39_openM k39_mk k39_mkM rd_T39 at_T39)
open Go.RowKit Go.Proofs.YtneogampbohfnaaDoorW.PrintWords Go.Proofs.YtneogampbohfnaaDoorW.PrintLast Go.Proofs.YtneogampbohfnaaDoorW.PrintMore
attribute [local go_sem] max2_int min2_int max_two min_two max_three min_three max_four min_four   -- for this text's walks alone
set_option linter.unusedVariables false
set_option linter.unusedSimpArgs false

/-! ### portagelaw13_ZipParts: function 4 -/
mutual
def portagelaw13_ZipParts.j0 : Nat → ByteArray → Bool → List (S39) → Option (Bool)
 | 0, _, _, _ => none
 | k + 1, x3, x33, x174000 => if x33 = true then (none) else (if 0 ≤ (wrap64 ((x3.size : Int) - 22)) then (if (wrap64 ((x3.size : Int) - 22)) ≤ (x3.size : Int) then (if 16 ≤ 20 then (if 20 ≤ ((x3.extract ((wrap64 ((x3.size : Int) - 22)) : Int).toNat x3.size).size : Int) then ((portageref10_Number.f k ((x3.extract ((wrap64 ((x3.size : Int) - 22)) : Int).toNat x3.size).extract 16 20)).bind fun t179 => (if 8 ≤ 10 then (if 10 ≤ ((x3.extract ((wrap64 ((x3.size : Int) - 22)) : Int).toNat x3.size).size : Int) then ((portageref10_Number.f k ((x3.extract ((wrap64 ((x3.size : Int) - 22)) : Int).toNat x3.size).extract 8 10)).bind fun t180 => (if t180 = (x174000.length : Int) then (if 10 ≤ 12 then (if 12 ≤ ((x3.extract ((wrap64 ((x3.size : Int) - 22)) : Int).toNat x3.size).size : Int) then ((portageref10_Number.f k ((x3.extract ((wrap64 ((x3.size : Int) - 22)) : Int).toNat x3.size).extract 10 12)).bind fun t181 => (if t181 = (x174000.length : Int) then (if 12 ≤ 16 then (if 16 ≤ ((x3.extract ((wrap64 ((x3.size : Int) - 22)) : Int).toNat x3.size).size : Int) then ((portageref10_Number.f k ((x3.extract ((wrap64 ((x3.size : Int) - 22)) : Int).toNat x3.size).extract 12 16)).bind fun t182 => (portagelaw13_ZipParts.j1 k x3 t179 ((wrap64 ((wrap64 (t179 + t182)) + 22)) != (x3.size : Int)) x174000)) else (none)) else (none)) else (portagelaw13_ZipParts.j1 k x3 t179 true x174000))) else (none)) else (none)) else (portagelaw13_ZipParts.j1 k x3 t179 true x174000))) else (none)) else (none))) else (none)) else (none)) else (none)) else (none))
def portagelaw13_ZipParts.j1 : Nat → ByteArray → Int → Bool → List (S39) → Option (Bool)
 | 0, _, _, _, _ => none
 | k + 1, x3, x6, x68, x174000 => if x68 = true then (none) else (portagelaw13_ZipParts.l0 k x3 x6 0 x6 0 x174000)
def portagelaw13_ZipParts.l0 : Nat → ByteArray → Int → Int → Int → Int → List (S39) → Option (Bool)
 | 0, _, _, _, _, _, _ => none
 | k + 1, x3, x6, x7, x8, x9, x174000 => if x9 < (x174000.length : Int) then (if 0 ≤ x9 then (if (wrap64 ((wrap64 (x7 + (wrap64 ((wrap64 (30 + (((rd_T39 x174000 x9).f0).size : Int))) + 26)))) + (((rd_T39 x174000 x9).f6).size : Int))) > x6 then (portagelaw13_ZipParts.j3 k x3 x6 x7 x8 x9 (wrap64 ((wrap64 (30 + (((rd_T39 x174000 x9).f0).size : Int))) + 26)) true x174000 ((rd_T39 x174000 x9).f0) ((rd_T39 x174000 x9).f1) ((rd_T39 x174000 x9).f2) ((rd_T39 x174000 x9).f3) ((rd_T39 x174000 x9).f4) ((rd_T39 x174000 x9).f5) ((rd_T39 x174000 x9).f6) ((rd_T39 x174000 x9).f7) ((rd_T39 x174000 x9).f8)) else (portagelaw13_ZipParts.j3 k x3 x6 x7 x8 x9 (wrap64 ((wrap64 (30 + (((rd_T39 x174000 x9).f0).size : Int))) + 26)) (decide ((wrap64 ((wrap64 ((wrap64 (x8 + 46)) + (((rd_T39 x174000 x9).f0).size : Int))) + 26)) > (wrap64 ((x3.size : Int) - 22)))) x174000 ((rd_T39 x174000 x9).f0) ((rd_T39 x174000 x9).f1) ((rd_T39 x174000 x9).f2) ((rd_T39 x174000 x9).f3) ((rd_T39 x174000 x9).f4) ((rd_T39 x174000 x9).f5) ((rd_T39 x174000 x9).f6) ((rd_T39 x174000 x9).f7) ((rd_T39 x174000 x9).f8))) else (none)) else (if x7 = x6 then (some (x8 == (wrap64 ((x3.size : Int) - 22)))) else (none))
def portagelaw13_ZipParts.j3 : Nat → ByteArray → Int → Int → Int → Int → Int → Bool → List (S39) → ByteArray → Bool → List Int → Int → Int → Int → ByteArray → Int → Int → Option (Bool)
 | 0, _, _, _, _, _, _, _, _, _, _, _, _, _, _, _, _, _ => none
 | k + 1, x3, x6, x7, x8, x9, x11, x108, x174000, x185000, x185001, x185002, x185003, x185004, x185005, x185006, x185007, x185008 => if x108 = true then (none) else (if 0 ≤ x7 then (if x7 ≤ (wrap64 (x7 + 4)) then (if (wrap64 (x7 + 4)) ≤ (x3.size : Int) then (if (x3.extract (x7 : Int).toNat ((wrap64 (x7 + 4)) : Int).toNat).toList = ([80, 75, 3, 4] : List UInt8) then (if 0 ≤ (wrap64 (x7 + 30)) then (if (wrap64 (x7 + 30)) ≤ (wrap64 ((wrap64 (x7 + 30)) + (x185000.size : Int))) then (if (wrap64 ((wrap64 (x7 + 30)) + (x185000.size : Int))) ≤ (x3.size : Int) then (if (x3.extract ((wrap64 (x7 + 30)) : Int).toNat ((wrap64 ((wrap64 (x7 + 30)) + (x185000.size : Int))) : Int).toNat).toList = x185000.toList then (if 0 ≤ (wrap64 (x7 + x11)) then (if (wrap64 (x7 + x11)) ≤ (wrap64 ((wrap64 (x7 + x11)) + (x185006.size : Int))) then (if (wrap64 ((wrap64 (x7 + x11)) + (x185006.size : Int))) ≤ (x3.size : Int) then (if (x3.extract ((wrap64 (x7 + x11)) : Int).toNat ((wrap64 ((wrap64 (x7 + x11)) + (x185006.size : Int))) : Int).toNat).toList = x185006.toList then (if 0 ≤ x8 then (if x8 ≤ (wrap64 (x8 + 4)) then (if (wrap64 (x8 + 4)) ≤ (x3.size : Int) then (if (x3.extract (x8 : Int).toNat ((wrap64 (x8 + 4)) : Int).toNat).toList = ([80, 75, 1, 2] : List UInt8) then (if 0 ≤ (wrap64 (x8 + 42)) then (if (wrap64 (x8 + 42)) ≤ (wrap64 (x8 + 46)) then (if (wrap64 (x8 + 46)) ≤ (x3.size : Int) then ((portageref10_Number.f k (x3.extract ((wrap64 (x8 + 42)) : Int).toNat ((wrap64 (x8 + 46)) : Int).toNat)).bind fun t185 => (if t185 = x7 then (if 0 ≤ (wrap64 (x8 + 6)) then (if (wrap64 (x8 + 6)) ≤ (wrap64 (x8 + 32)) then (if (wrap64 (x8 + 32)) ≤ (x3.size : Int) then (if 0 ≤ (wrap64 (x7 + 4)) then (if (wrap64 (x7 + 4)) ≤ (wrap64 (x7 + 30)) then (if (wrap64 (x7 + 30)) ≤ (x3.size : Int) then (if (x3.extract ((wrap64 (x8 + 6)) : Int).toNat ((wrap64 (x8 + 32)) : Int).toNat).toList = (x3.extract ((wrap64 (x7 + 4)) : Int).toNat ((wrap64 (x7 + 30)) : Int).toNat).toList then (if 0 ≤ (wrap64 (x8 + 46)) then (if (wrap64 (x8 + 46)) ≤ (wrap64 ((wrap64 ((wrap64 (x8 + 46)) + (x185000.size : Int))) + 26)) then (if (wrap64 ((wrap64 ((wrap64 (x8 + 46)) + (x185000.size : Int))) + 26)) ≤ (x3.size : Int) then (if (wrap64 (x7 + 30)) ≤ (wrap64 (x7 + x11)) then (if (wrap64 (x7 + x11)) ≤ (x3.size : Int) then (if (x3.extract ((wrap64 (x8 + 46)) : Int).toNat ((wrap64 ((wrap64 ((wrap64 (x8 + 46)) + (x185000.size : Int))) + 26)) : Int).toNat).toList = (x3.extract ((wrap64 (x7 + 30)) : Int).toNat ((wrap64 (x7 + x11)) : Int).toNat).toList then (portagelaw13_ZipParts.l0 k x3 x6 (wrap64 ((wrap64 (x7 + x11)) + (x185006.size : Int))) (wrap64 ((wrap64 ((wrap64 (x8 + 46)) + (x185000.size : Int))) + 26)) (wrap64 (x9 + 1)) x174000) else (none)) else (none)) else (none)) else (none)) else (none)) else (none)) else (none)) else (none)) else (none)) else (none)) else (none)) else (none)) else (none)) else (none))) else (none)) else (none)) else (none)) else (none)) else (none)) else (none)) else (none)) else (none)) else (none)) else (none)) else (none)) else (none)) else (none)) else (none)) else (none)) else (none)) else (none)) else (none)) else (none))
end
def portagelaw13_ZipParts.f (k : Nat) (l0_0 : List (S39)) : Option (Bool) := (portagelaw13_awake.f k).bind fun t174 => (if t174 = true then ((zipput_Put.f l0_0).bind fun bt175 => ((portagelaw0_Num.f bt175.2).bind fun t177 => (if t177 = 0 then (if (bt175.1.size : Int) < 22 then (portagelaw13_ZipParts.j0 k bt175.1 true l0_0) else ((zipput_Size.f l0_0).bind fun t178 => (portagelaw13_ZipParts.j0 k bt175.1 ((bt175.1.size : Int) != t178) l0_0))) else (some (bt175.1.toList == ([] : List UInt8)))))) else (none))
theorem portagelaw13_ZipParts.mono_l : ∀ k, (∀ y0 y1 y2, LeO (portagelaw13_ZipParts.j0 k y0 y1 y2) (portagelaw13_ZipParts.j0 (k + 1) y0 y1 y2)) ∧ (∀ y0 y1 y2 y3, LeO (portagelaw13_ZipParts.j1 k y0 y1 y2 y3) (portagelaw13_ZipParts.j1 (k + 1) y0 y1 y2 y3)) ∧ (∀ y0 y1 y2 y3 y4 y5, LeO (portagelaw13_ZipParts.l0 k y0 y1 y2 y3 y4 y5) (portagelaw13_ZipParts.l0 (k + 1) y0 y1 y2 y3 y4 y5)) ∧ (∀ y0 y1 y2 y3 y4 y5 y6 y7 y8 y9 y10 y11 y12 y13 y14 y15 y16, LeO (portagelaw13_ZipParts.j3 k y0 y1 y2 y3 y4 y5 y6 y7 y8 y9 y10 y11 y12 y13 y14 y15 y16) (portagelaw13_ZipParts.j3 (k + 1) y0 y1 y2 y3 y4 y5 y6 y7 y8 y9 y10 y11 y12 y13 y14 y15 y16))
 | 0 => ⟨fun _ _ _ r h => by simp [portagelaw13_ZipParts.j0] at h, fun _ _ _ _ r h => by simp [portagelaw13_ZipParts.j1] at h, fun _ _ _ _ _ _ r h => by simp [portagelaw13_ZipParts.l0] at h, fun _ _ _ _ _ _ _ _ _ _ _ _ _ _ _ _ _ r h => by simp [portagelaw13_ZipParts.j3] at h⟩
 | k + 1 => by
  obtain ⟨ih0, ih1, ih2, ih3⟩ := portagelaw13_ZipParts.mono_l k
  refine ⟨?_, ?_, ?_, ?_⟩
  ·intro y0 y1 y2
   unfold portagelaw13_ZipParts.j0
   repeat' first
   | (with_reducible exact ih0 _ _ _)
   | (with_reducible exact ih1 _ _ _ _)
   | (with_reducible exact ih2 _ _ _ _ _ _)
   | (with_reducible exact ih3 _ _ _ _ _ _ _ _ _ _ _ _ _ _ _ _ _)
   | (with_reducible exact portagelaw13_awake.mono _)
   | (with_reducible exact portageref10_Number.mono _ _)
   | (with_reducible exact LeO.refl _)
   | (with_reducible exact LeO.none _)
   | (with_reducible refine LeO.ite ?_ ?_)
   | (with_reducible refine LeO.bind ?_ (fun _ => ?_))
   | exact ih0 _ _ _
   | exact ih1 _ _ _ _
   | exact ih2 _ _ _ _ _ _
   | exact ih3 _ _ _ _ _ _ _ _ _ _ _ _ _ _ _ _ _
   | exact portagelaw13_awake.mono _
   | exact portageref10_Number.mono _ _
   | exact LeO.none _
   | refine LeO.ite ?_ ?_
   | refine LeO.bind ?_ (fun _ => ?_)
  ·intro y0 y1 y2 y3
   unfold portagelaw13_ZipParts.j1
   repeat' first
   | (with_reducible exact ih0 _ _ _)
   | (with_reducible exact ih1 _ _ _ _)
   | (with_reducible exact ih2 _ _ _ _ _ _)
   | (with_reducible exact ih3 _ _ _ _ _ _ _ _ _ _ _ _ _ _ _ _ _)
   | (with_reducible exact portagelaw13_awake.mono _)
   | (with_reducible exact portageref10_Number.mono _ _)
   | (with_reducible exact LeO.refl _)
   | (with_reducible exact LeO.none _)
   | (with_reducible refine LeO.ite ?_ ?_)
   | (with_reducible refine LeO.bind ?_ (fun _ => ?_))
   | exact ih0 _ _ _
   | exact ih1 _ _ _ _
   | exact ih2 _ _ _ _ _ _
   | exact ih3 _ _ _ _ _ _ _ _ _ _ _ _ _ _ _ _ _
   | exact portagelaw13_awake.mono _
   | exact portageref10_Number.mono _ _
   | exact LeO.none _
   | refine LeO.ite ?_ ?_
   | refine LeO.bind ?_ (fun _ => ?_)
  ·intro y0 y1 y2 y3 y4 y5
   unfold portagelaw13_ZipParts.l0
   repeat' first
   | (with_reducible exact ih0 _ _ _)
   | (with_reducible exact ih1 _ _ _ _)
   | (with_reducible exact ih2 _ _ _ _ _ _)
   | (with_reducible exact ih3 _ _ _ _ _ _ _ _ _ _ _ _ _ _ _ _ _)
   | (with_reducible exact portagelaw13_awake.mono _)
   | (with_reducible exact portageref10_Number.mono _ _)
   | (with_reducible exact LeO.refl _)
   | (with_reducible exact LeO.none _)
   | (with_reducible refine LeO.ite ?_ ?_)
   | (with_reducible refine LeO.bind ?_ (fun _ => ?_))
   | exact ih0 _ _ _
   | exact ih1 _ _ _ _
   | exact ih2 _ _ _ _ _ _
   | exact ih3 _ _ _ _ _ _ _ _ _ _ _ _ _ _ _ _ _
   | exact portagelaw13_awake.mono _
   | exact portageref10_Number.mono _ _
   | exact LeO.none _
   | refine LeO.ite ?_ ?_
   | refine LeO.bind ?_ (fun _ => ?_)
  ·intro y0 y1 y2 y3 y4 y5 y6 y7 y8 y9 y10 y11 y12 y13 y14 y15 y16
   unfold portagelaw13_ZipParts.j3
   repeat' first
   | (with_reducible exact ih0 _ _ _)
   | (with_reducible exact ih1 _ _ _ _)
   | (with_reducible exact ih2 _ _ _ _ _ _)
   | (with_reducible exact ih3 _ _ _ _ _ _ _ _ _ _ _ _ _ _ _ _ _)
   | (with_reducible exact portagelaw13_awake.mono _)
   | (with_reducible exact portageref10_Number.mono _ _)
   | (with_reducible exact LeO.refl _)
   | (with_reducible exact LeO.none _)
   | (with_reducible refine LeO.ite ?_ ?_)
   | (with_reducible refine LeO.bind ?_ (fun _ => ?_))
   | exact ih0 _ _ _
   | exact ih1 _ _ _ _
   | exact ih2 _ _ _ _ _ _
   | exact ih3 _ _ _ _ _ _ _ _ _ _ _ _ _ _ _ _ _
   | exact portagelaw13_awake.mono _
   | exact portageref10_Number.mono _ _
   | exact LeO.none _
   | refine LeO.ite ?_ ?_
   | refine LeO.bind ?_ (fun _ => ?_)
theorem portagelaw13_ZipParts.mono : ∀ a0 k, LeO (portagelaw13_ZipParts.f k a0) (portagelaw13_ZipParts.f (k + 1) a0) := by
 intro a0 k
 obtain ⟨ih0, ih1, ih2, ih3⟩ := portagelaw13_ZipParts.mono_l k
 unfold portagelaw13_ZipParts.f
 repeat' first
   | (with_reducible exact ih0 _ _ _)
   | (with_reducible exact ih1 _ _ _ _)
   | (with_reducible exact ih2 _ _ _ _ _ _)
   | (with_reducible exact ih3 _ _ _ _ _ _ _ _ _ _ _ _ _ _ _ _ _)
   | (with_reducible exact portagelaw13_awake.mono _)
   | (with_reducible exact portageref10_Number.mono _ _)
   | (with_reducible exact LeO.refl _)
   | (with_reducible exact LeO.none _)
   | (with_reducible refine LeO.ite ?_ ?_)
   | (with_reducible refine LeO.bind ?_ (fun _ => ?_))
   | exact ih0 _ _ _
   | exact ih1 _ _ _ _
   | exact ih2 _ _ _ _ _ _
   | exact ih3 _ _ _ _ _ _ _ _ _ _ _ _ _ _ _ _ _
   | exact portagelaw13_awake.mono _
   | exact portageref10_Number.mono _ _
   | exact LeO.none _
   | refine LeO.ite ?_ ?_
   | refine LeO.bind ?_ (fun _ => ?_)
def portagelaw13_ZipParts.T10 : Bool × List (List Nat × List Nat) := (true, [([], []), ([0], [0]), ([1], [1]), ([], []), ([3], [3]), ([4], [4]), ([2, 5], [2, 5]), ([6, 2], [6]), ([7], [7]), ([8, 7], [7, 8]), ([9, 7, 7], [7, 9]), ([7], [7]), ([11, 7], [7, 11]), ([12, 7], [7, 12]), ([10, 13, 7], [7, 10, 13]), ([7, 14], [7, 14]), ([15, 10], [15]), ([16], [16]), ([16], [16]), ([18, 16], [16, 18]), ([19, 16, 16], [16, 19]), ([17, 20, 16], [16, 17, 20]), ([21, 16], [16, 21]), ([16], [16]), ([23, 16], [16, 23]), ([22, 24, 16], [16, 22, 24]), ([16, 25], [16, 25])])
def portagelaw13_ZipParts.B10 : List Nat := [0, 1, 3, 0, 8, 24, 63, 127, 255, 511, 1023, 255, 2303, 6399, 16383, 32767, 65535, 131071, 131071, 393215, 917503, 2097151, 4194303, 131071, 8519679, 33554431, 67108863]
theorem portagelaw13_ZipParts.tab10 : rtab .any (opsOf Tryd.f4 10) = portagelaw13_ZipParts.T10 := by kernel_rfl
theorem portagelaw13_ZipParts.bits10 : waitsOk portagelaw13_ZipParts.T10.2 portagelaw13_ZipParts.B10 = true := by kernel_rfl
def portagelaw13_ZipParts.T20 : Bool × List (List Nat × List Nat) := (true, [([], []), ([], []), ([], []), ([2], [2]), ([0, 1, 3], [0, 1, 3]), ([4], [4]), ([5], [5]), ([6], [6]), ([6], [6]), ([8, 6], [6, 8]), ([6], [6]), ([10, 6], [6, 10]), ([6], [6]), ([12, 6], [6, 12]), ([13, 6], [6, 13]), ([11, 14, 6], [6, 11, 14]), ([7, 9, 15, 6], [6, 7, 9, 15]), ([6], [6]), ([17, 6], [6, 17]), ([16, 18, 6], [6, 16, 18]), ([6, 19], [6, 19]), ([20, 6], [20]), ([21], [21]), ([21], [21]), ([21], [21]), ([23, 24, 21], [21, 23, 24]), ([21], [21]), ([21], [21]), ([26, 27, 21], [21, 26, 27]), ([21], [21]), ([29, 21], [21, 29]), ([30, 21], [21, 30]), ([28, 31, 21], [21, 28, 31]), ([22, 25, 32, 21], [21, 22, 25, 32]), ([21], [21]), ([34, 21], [21, 34]), ([33, 35, 21], [21, 33, 35]), ([21, 36], [21, 36]), ([37, 21], [37]), ([38], [38]), ([38], [38]), ([38], [38]), ([41, 38], [38, 41]), ([39, 40, 42, 38], [38, 39, 40, 42]), ([43, 38], [38, 43]), ([38, 44], [38, 44]), ([45, 38], [45]), ([46], [46]), ([46], [46]), ([48, 46], [46, 48]), ([46], [46]), ([50, 46], [46, 50]), ([47, 49, 51, 46], [46, 47, 49, 51]), ([52, 46, 46], [46, 52]), ([46], [46]), ([53, 54, 46], [46, 53, 54]), ([46, 55], [46, 55]), ([56, 53], [56]), ([57], [57]), ([57], [57]), ([59, 57], [57, 59]), ([57], [57]), ([61, 57], [57, 61]), ([58, 60, 62, 57], [57, 58, 60, 62]), ([57], [57]), ([57], [57]), ([65, 57], [57, 65]), ([57], [57]), ([67, 57], [57, 67]), ([64, 66, 68, 57], [57, 64, 66, 68]), ([63, 69, 57], [57, 63, 69]), ([57, 70], [57, 70]), ([71, 57], [71]), ([72], [72]), ([72], [72]), ([74, 72], [72, 74]), ([72], [72]), ([76, 72], [72, 76]), ([72], [72]), ([78, 72], [72, 78]), ([79, 72], [72, 79]), ([77, 80, 72], [72, 77, 80]), ([81, 72], [72, 81]), ([73, 75, 82, 72], [72, 73, 75, 82]), ([72], [72]), ([72], [72]), ([85, 72], [72, 85]), ([72], [72]), ([72], [72]), ([87, 88, 72], [72, 87, 88]), ([84, 86, 89, 72], [72, 84, 86, 89]), ([83, 90, 72], [72, 83, 90]), ([72, 91], [72, 91])])
def portagelaw13_ZipParts.B20 : List Nat := [0, 0, 0, 4, 15, 31, 63, 127, 127, 383, 127, 1151, 127, 4223, 12415, 31871, 65535, 127, 131199, 524287, 1048575, 2097151, 4194303, 4194303, 4194303, 29360127, 4194303, 4194303, 205520895, 4194303, 541065215, 1614807039, 4232052735, 8589934591, 4194303, 17184063487, 68719476735, 137438953471, 274877906943, 549755813887, 549755813887, 549755813887, 2748779069439, 8796093022207, 17592186044415, 35184372088831, 70368744177663, 140737488355327, 140737488355327, 422212465065983, 140737488355327, 1266637395197951, 4503599627370495, 9007199254740991, 140737488355327, 36028797018963967, 72057594037927935, 144115188075855871, 288230376151711743, 288230376151711743, 864691128455135231, 288230376151711743, 2594073385365405695, 9223372036854775807, 288230376151711743, 288230376151711743, 37181718523570814975, 288230376151711743, 147862182965828124671, 572137296661147811839, 1180591620717411303423, 2361183241434822606847, 4722366482869645213695, 9444732965739290427391, 9444732965739290427391, 28334198897217871282175, 9444732965739290427391, 85002596691653613846527, 9444732965739290427391, 311676187869396584103935, 916139097676711171457023, 2351738508469083316420607, 4769590147698341665832959, 9671406556917033397649407, 9444732965739290427391, 9444732965739290427391, 38695070960633872881025023, 9444732965739290427391, 9444732965739290427391, 464236959464983342377598975, 1218606670904511947394252799, 2475880078570760549798248447, 4951760157141521099596496895]
theorem portagelaw13_ZipParts.tab20 : rtab .any (opsOf Tryd.f4 20) = portagelaw13_ZipParts.T20 := by kernel_rfl
theorem portagelaw13_ZipParts.bits20 : waitsOk portagelaw13_ZipParts.T20.2 portagelaw13_ZipParts.B20 = true := by kernel_rfl
set_option maxHeartbeats 8000000 in
set_option maxRecDepth 100000 in
theorem portagelaw13_ZipParts.calls (k : Nat) (A0_0 : Option Addr) (c0_0 : Nat) (l0_0 : List (S39)) (r : Bool) (w : World) (hr0_0 : Kd.C k39 w A0_0 l0_0.length l0_0) (hc0_0 : l0_0.length ≤ c0_0) (h : portagelaw13_ZipParts.f k l0_0 = some r) :
  Calls Tryd.prog 4 #[.agg #[.slice A0_0 l0_0.length c0_0]] w fun e w' => e = .returned (.bool r) ∧ Below w.heap.size w w' := by
 have hu24 := Tryd.underlying24
 have hu39 := Tryd.underlying39
 have HR0_0 := qas hr0_0
 have HC0_0 := qas hc0_0
 clear hr0_0 hc0_0
 have HB := qas (Below.refl w.heap.size w)
 have H : ((portagelaw13_awake.f k).bind fun t174 => (if t174 = true then ((zipput_Put.f l0_0).bind fun bt175 => ((portagelaw0_Num.f bt175.2).bind fun t177 => (if t177 = 0 then (if (bt175.1.size : Int) < 22 then (portagelaw13_ZipParts.j0 k bt175.1 true l0_0) else ((zipput_Size.f l0_0).bind fun t178 => (portagelaw13_ZipParts.j0 k bt175.1 ((bt175.1.size : Int) != t178) l0_0))) else (some (bt175.1.toList == ([] : List UInt8)))))) else (none))) = some r := h
 clear h
 replace H := Option.bind_eq_some_iff.mp H
 obtain ⟨t174, A20, H⟩ := H
 replace H : (if t174 = true then ((zipput_Put.f l0_0).bind fun bt175 => ((portagelaw0_Num.f bt175.2).bind fun t177 => (if t177 = 0 then (if (bt175.1.size : Int) < 22 then (portagelaw13_ZipParts.j0 k bt175.1 true l0_0) else ((zipput_Size.f l0_0).bind fun t178 => (portagelaw13_ZipParts.j0 k bt175.1 ((bt175.1.size : Int) != t178) l0_0))) else (some (bt175.1.toList == ([] : List UInt8)))))) else (none)) = some r := H
 have A2 := qas A20
 clear A20
 by_cases c3 : t174 = true
 rotate_left
 ·replace c3 := Bool.eq_false_iff.mpr c3
  subst c3
  have H1 : (none) = some r := by rw [if_neg (show ¬ (false = true) by decide)] at H; exact H
  clear H
  have H := H1
  clear H1
  exact absurd H (by simp)
 subst c3
 have H1 : ((zipput_Put.f l0_0).bind fun bt175 => ((portagelaw0_Num.f bt175.2).bind fun t177 => (if t177 = 0 then (if (bt175.1.size : Int) < 22 then (portagelaw13_ZipParts.j0 k bt175.1 true l0_0) else ((zipput_Size.f l0_0).bind fun t178 => (portagelaw13_ZipParts.j0 k bt175.1 ((bt175.1.size : Int) != t178) l0_0))) else (some (bt175.1.toList == ([] : List UInt8)))))) = some r := by rw [if_pos rfl] at H; exact H
 clear H
 have H := H1
 clear H1
 replace H := Option.bind_eq_some_iff.mp H
 obtain ⟨⟨t175, t176⟩, A40, H⟩ := H
 replace H : ((portagelaw0_Num.f t176).bind fun t177 => (if t177 = 0 then (if (t175.size : Int) < 22 then (portagelaw13_ZipParts.j0 k t175 true l0_0) else ((zipput_Size.f l0_0).bind fun t178 => (portagelaw13_ZipParts.j0 k t175 ((t175.size : Int) != t178) l0_0))) else (some (t175.toList == ([] : List UInt8))))) = some r := H
 have A4 := qas A40
 clear A40
 replace H := Option.bind_eq_some_iff.mp H
 obtain ⟨t177, A50, H⟩ := H
 replace H : (if t177 = 0 then (if (t175.size : Int) < 22 then (portagelaw13_ZipParts.j0 k t175 true l0_0) else ((zipput_Size.f l0_0).bind fun t178 => (portagelaw13_ZipParts.j0 k t175 ((t175.size : Int) != t178) l0_0))) else (some (t175.toList == ([] : List UInt8)))) = some r := H
 have A5 := qas A50
 clear A50
 by_cases c6 : t177 = 0
 rotate_left
 ·rw [if_neg c6] at H
  have c6b0 : (t177 == 0) = false := beq_eq_false_iff_ne.mpr c6
  have c6b1 : (t177 != 0) = true := bne_iff_ne.mpr c6
  obtain rfl := Option.some.inj H
  go_enter Tryd.func4, Tryd.ntmps4
  go_wp2_with (first | ((with_reducible refine gate_dst (N := 1) rfl ?_); (try (refine gate_guard (by rfl) ?_; dsimp only)); refine box_event ?hg (N := 1) ?hd (cs := #[.slice A0_0 l0_0.length c0_0]) (t := 24) ?hr ?_; (case hd => rfl); (case hg => rfl); (case hr => first | (go_simp; done) | (go_simp; rfl)); intro gb173 hg w98 hbox hb; have n0_ := qas (below_step (by repeat (first | (with_reducible first | exact HB.out | apply qbA | apply qbB | apply qbC) | exact HB.out)) hb); have n1_ := qas (hbox); have n2_ := qas ((by rw [hg]; exact (below_size (by repeat (first | (with_reducible first | exact HB.out | apply qbA | apply qbB | apply qbC) | exact HB.out))) : w.heap.size ≤ gb173)); have n3_ := qas ((by rw [hg]; exact (below_size (by repeat (first | (with_reducible first | exact HB.out | apply qbA | apply qbB | apply qbC) | exact HB.out))) : w.heap.size ≤ gb173)); clear HB; have HB := n0_; have BK173 := n1_; have GW173 := n2_; have GE173 := n3_; clear n0_ n1_ n2_ n3_; clear hb hbox hg) | ((with_reducible refine gate_callee (f := 25) rfl ?_); refine goesL_ (some 12) rfl rfl Tryd.func25 (by kernel_rfl) rfl #[] rfl (by (try simp only [List.map_toArray, List.map_cons, List.map_nil]); first | done | rfl | (simp only [List.length_drop, List.length_take]; rfl)) ?_; (with_reducible refine (portagelaw13_awake.calls k  true _ A2.out).mono ?_); rintro e w99 ⟨rfl, hb⟩; refine ⟨_, rfl, ?_⟩; have n0_ := qas (blk_below (g := gb173) (o := .cells #[.slice A0_0 l0_0.length c0_0] 24 (0, 0)) (by (with_reducible repeat (first | refine qkA ?_ _ | refine qkB ?_ | refine qkC ?_ _)); exact BK173.out) hb); have n1_ := qas (below_step (by repeat (first | (with_reducible first | exact HB.out | apply qbA | apply qbB | apply qbC | refine below_set ?_ GE173.out) | exact HB.out)) hb); clear BK173; clear HB; have BK173 := n0_; have HB := n1_; clear n0_ n1_; (try clear hb); (try clear hb2); (try clear hk); (try clear hi); have hcz100_0 : w99.cell? ⟨gb173, 0, none⟩ = some (.slice A0_0 l0_0.length c0_0) := (blk_cell BK173.out 0).trans rfl; have hfz100_0 := blk_frozen BK173.out 0) | ((with_reducible refine gate_callee (f := 17) rfl ?_); refine goesL_ (some 16) rfl rfl Tryd.func17 (by kernel_rfl) rfl #[.agg #[.slice A0_0 l0_0.length c0_0]] rfl (by (try simp only [List.map_toArray, List.map_cons, List.map_nil]); first | done | rfl | (simp only [List.length_drop, List.length_take]; rfl)) ?_; (with_reducible refine (zipput_Put.calls _ _ l0_0 t175 t176 _ ?side1 ?side2 A4.out).mono ?_); (case side1 => repeat (first | exact (Kd.C_below HR0_0.out HB.out) | (with_reducible refine Kd.C_alloc ?_ _) | (with_reducible refine Kd.C_drewN ?_ _) | (with_reducible refine Kd.C_drew ?_))); (case side2 => exact HC0_0.out); rintro e w101 ⟨rfl, hb⟩; refine ⟨_, rfl, ?_⟩; have n0_ := qas (blk_below (g := gb173) (o := .cells #[.slice A0_0 l0_0.length c0_0] 24 (0, 0)) (by (with_reducible repeat (first | refine qkA ?_ _ | refine qkB ?_ | refine qkC ?_ _)); exact BK173.out) hb); have n1_ := qas (below_step (by repeat (first | (with_reducible first | exact HB.out | apply qbA | apply qbB | apply qbC | refine below_set ?_ GE173.out) | exact HB.out)) hb); clear BK173; clear HB; have BK173 := n0_; have HB := n1_; clear n0_ n1_; (try clear hb); (try clear hb2); (try clear hk); (try clear hi)) | ((with_reducible refine gate_callee (f := 19) rfl ?_); refine goesL_ (some 20) rfl rfl Tryd.func19 (by kernel_rfl) rfl #[.int .i64 t176] rfl (by (try simp only [List.map_toArray, List.map_cons, List.map_nil]); first | done | rfl | (simp only [List.length_drop, List.length_take]; rfl)) ?_; (with_reducible refine (portagelaw0_Num.calls t176 t177 _ A5.out).mono ?_); rintro e w' ⟨rfl, ⟨nd, rfl⟩⟩; refine ⟨_, rfl, ?_⟩))
  go_ret
  exact ⟨by first | rfl | (simp [errW_none, errW_some] <;> rfl) | (simp [*, errW_none, errW_some] <;> rfl), by repeat (first | (with_reducible first | exact HB.out | apply qbA | apply qbB | apply qbC | refine below_set ?_ GE173.out) | exact HB.out)⟩
 rw [if_pos c6] at H
 have c6b0 : (t177 == 0) = true := beq_iff_eq.mpr c6
 have c6b1 : (t177 != 0) = false := bne_eq_false_iff_eq.mpr c6
 clear c6
 have HC7 := qas H
 clear H
 go_enter Tryd.func4, Tryd.ntmps4
 go_upto_region 6 with (first | ((with_reducible refine gate_dst (N := 1) rfl ?_); (try (refine gate_guard (by rfl) ?_; dsimp only)); refine box_event ?hg (N := 1) ?hd (cs := #[.slice A0_0 l0_0.length c0_0]) (t := 24) ?hr ?_; (case hd => rfl); (case hg => rfl); (case hr => first | (go_simp; done) | (go_simp; rfl)); intro gb173 hg w8 hbox hb; have n0_ := qas (below_step (by repeat (first | (with_reducible first | exact HB.out | apply qbA | apply qbB | apply qbC) | exact HB.out)) hb); have n1_ := qas (hbox); have n2_ := qas ((by rw [hg]; exact (below_size (by repeat (first | (with_reducible first | exact HB.out | apply qbA | apply qbB | apply qbC) | exact HB.out))) : w.heap.size ≤ gb173)); have n3_ := qas ((by rw [hg]; exact (below_size (by repeat (first | (with_reducible first | exact HB.out | apply qbA | apply qbB | apply qbC) | exact HB.out))) : w.heap.size ≤ gb173)); clear HB; have HB := n0_; have BK173 := n1_; have GW173 := n2_; have GE173 := n3_; clear n0_ n1_ n2_ n3_; clear hb hbox hg) | ((with_reducible refine gate_callee (f := 25) rfl ?_); refine goesL_ (some 12) rfl rfl Tryd.func25 (by kernel_rfl) rfl #[] rfl (by (try simp only [List.map_toArray, List.map_cons, List.map_nil]); first | done | rfl | (simp only [List.length_drop, List.length_take]; rfl)) ?_; (with_reducible refine (portagelaw13_awake.calls k  true _ A2.out).mono ?_); rintro e w9 ⟨rfl, hb⟩; refine ⟨_, rfl, ?_⟩; have n0_ := qas (blk_below (g := gb173) (o := .cells #[.slice A0_0 l0_0.length c0_0] 24 (0, 0)) (by (with_reducible repeat (first | refine qkA ?_ _ | refine qkB ?_ | refine qkC ?_ _)); exact BK173.out) hb); have n1_ := qas (below_step (by repeat (first | (with_reducible first | exact HB.out | apply qbA | apply qbB | apply qbC | refine below_set ?_ GE173.out) | exact HB.out)) hb); clear BK173; clear HB; have BK173 := n0_; have HB := n1_; clear n0_ n1_; (try clear hb); (try clear hb2); (try clear hk); (try clear hi); have hcz10_0 : w9.cell? ⟨gb173, 0, none⟩ = some (.slice A0_0 l0_0.length c0_0) := (blk_cell BK173.out 0).trans rfl; have hfz10_0 := blk_frozen BK173.out 0) | ((with_reducible refine gate_callee (f := 17) rfl ?_); refine goesL_ (some 16) rfl rfl Tryd.func17 (by kernel_rfl) rfl #[.agg #[.slice A0_0 l0_0.length c0_0]] rfl (by (try simp only [List.map_toArray, List.map_cons, List.map_nil]); first | done | rfl | (simp only [List.length_drop, List.length_take]; rfl)) ?_; (with_reducible refine (zipput_Put.calls _ _ l0_0 t175 t176 _ ?side1 ?side2 A4.out).mono ?_); (case side1 => repeat (first | exact (Kd.C_below HR0_0.out HB.out) | (with_reducible refine Kd.C_alloc ?_ _) | (with_reducible refine Kd.C_drewN ?_ _) | (with_reducible refine Kd.C_drew ?_))); (case side2 => exact HC0_0.out); rintro e w11 ⟨rfl, hb⟩; refine ⟨_, rfl, ?_⟩; have n0_ := qas (blk_below (g := gb173) (o := .cells #[.slice A0_0 l0_0.length c0_0] 24 (0, 0)) (by (with_reducible repeat (first | refine qkA ?_ _ | refine qkB ?_ | refine qkC ?_ _)); exact BK173.out) hb); have n1_ := qas (below_step (by repeat (first | (with_reducible first | exact HB.out | apply qbA | apply qbB | apply qbC | refine below_set ?_ GE173.out) | exact HB.out)) hb); clear BK173; clear HB; have BK173 := n0_; have HB := n1_; clear n0_ n1_; (try clear hb); (try clear hb2); (try clear hk); (try clear hi)) | ((with_reducible refine gate_callee (f := 19) rfl ?_); refine goesL_ (some 20) rfl rfl Tryd.func19 (by kernel_rfl) rfl #[.int .i64 t176] rfl (by (try simp only [List.map_toArray, List.map_cons, List.map_nil]); first | done | rfl | (simp only [List.length_drop, List.length_take]; rfl)) ?_; (with_reducible refine (portagelaw0_Num.calls t176 t177 _ A5.out).mono ?_); rintro e w' ⟨rfl, ⟨nd, rfl⟩⟩; refine ⟨_, rfl, ?_⟩))
 (try simp only [Act.put, qsA, qsB, qsC])
 go_cut [33] (fun v33 wc => ∃ (kq : Nat) (x33_6 : Bool), v33 = .bool x33_6 ∧ Aside0 (portagelaw13_ZipParts.j0 kq t175 x33_6 l0_0 = some r) ∧ Aside0 (kq ≤ k) ∧ Aside0 (wc.heap[gb173]? = some (.cells #[(.slice A0_0 l0_0.length c0_0)] 24 (0, 0))) ∧ Aside0 (Below w.heap.size w wc))
 case first =>
  as_aux_lemma =>
   have H := HC7.out
   clear HC7
   by_cases c12 : (t175.size : Int) < 22
   ·rw [if_pos c12] at H
    have c12b0 : decide ((t175.size : Int) < 22) = true := decide_eq_true c12
    have c12b1 : decide (t175.size < 22) = true := decide_eq_true (by omega)
    clear c12
    (first | rw [c12b0] | (simp only [i64_w, i32_w]; rw [c12b0]) | skip)
    have H' := qas H
    clear H
    go_wp2
    go_meet
    case rel => exact ⟨_, (true), (by first | rfl | (simp; done) | (simp [*]; done)), H', ⟨by first | omega | exact Nat.le_refl _⟩, ⟨by (with_reducible repeat (first | refine qkA ?_ _ | refine qkB ?_ | refine qkC ?_ _)); exact BK173.out⟩, ⟨by repeat (first | (with_reducible first | exact HB.out | apply qbA | apply qbB | apply qbC | refine below_set ?_ GE173.out) | exact HB.out)⟩⟩
   rw [if_neg c12] at H
   have c12b0 : decide ((t175.size : Int) < 22) = false := decide_eq_false c12
   have c12b1 : decide (t175.size < 22) = false := decide_eq_false (by omega)
   clear c12
   (first | rw [c12b0] | (simp only [i64_w, i32_w]; rw [c12b0]) | skip)
   replace H := Option.bind_eq_some_iff.mp H
   obtain ⟨t178, A130, H⟩ := H
   replace H : (portagelaw13_ZipParts.j0 k t175 ((t175.size : Int) != t178) l0_0) = some r := H
   have A13 := qas A130
   clear A130
   have H' := qas H
   clear H
   have hcz14_0 : w11.cell? ⟨gb173, 0, none⟩ = some (.slice A0_0 l0_0.length c0_0) := (blk_cell BK173.out 0).trans rfl
   have hfz14_0 := blk_frozen BK173.out 0
   go_wp2_with (first | (go_at_call 20; (with_reducible refine (zipput_Size.calls _ _ l0_0 t178 _ ?side1 ?side2 A13.out).mono ?_); (case side1 => repeat (first | exact (Kd.C_below HR0_0.out HB.out) | (with_reducible refine Kd.C_alloc ?_ _) | (with_reducible refine Kd.C_drewN ?_ _) | (with_reducible refine Kd.C_drew ?_))); (case side2 => exact HC0_0.out); rintro e w15 ⟨rfl, hb⟩; have n0_ := qas (blk_below (g := gb173) (o := .cells #[.slice A0_0 l0_0.length c0_0] 24 (0, 0)) (by (with_reducible repeat (first | refine qkA ?_ _ | refine qkB ?_ | refine qkC ?_ _)); exact BK173.out) hb); have n1_ := qas (below_step (by repeat (first | (with_reducible first | exact HB.out | apply qbA | apply qbB | apply qbC | refine below_set ?_ GE173.out) | exact HB.out)) hb); clear BK173; clear HB; have BK173 := n0_; have HB := n1_; clear n0_ n1_; (try clear hb); (try clear hb2); (try clear hk); (try clear hi)))
   go_meet
   case rel => exact ⟨_, (((t175.size : Int) != t178)), (by first | rfl | (simp; done) | (simp [*]; done)), H', ⟨by first | omega | exact Nat.le_refl _⟩, ⟨by (with_reducible repeat (first | refine qkA ?_ _ | refine qkB ?_ | refine qkC ?_ _)); exact BK173.out⟩, ⟨by repeat (first | (with_reducible first | exact HB.out | apply qbA | apply qbB | apply qbC | refine below_set ?_ GE173.out) | exact HB.out)⟩⟩
 case rest =>
  as_aux_lemma =>
   clear HC7
   try clear c1
   try clear c2
   try clear p2
   try clear c3
   try clear c4
   try clear c6
   try clear c6b0
   try clear c6b1
   try clear c12
   try clear c12b0
   try clear c12b1
   try clear hcz10_0
   try clear hcz14_0
   try clear hfz10_0
   try clear hfz14_0
   obtain ⟨kq, x33_6, rfl, HA, HJ6, BK173, HB⟩ := hcut
   cases kq with
   | zero => exact absurd HA.out (by simp [portagelaw13_ZipParts.j0])
   | succ kj6 =>
    have H := HA.out
    clear HA
    simp only [portagelaw13_ZipParts.j0] at H
    by_cases c16 : x33_6 = true
    ·subst c16
     have H1 : (none) = some r := by rw [if_pos rfl] at H; exact H
     clear H
     have H := H1
     clear H1
     exact absurd H (by simp)
    replace c16 := Bool.eq_false_iff.mpr c16
    subst c16
    have H1 : (if 0 ≤ (wrap64 ((t175.size : Int) - 22)) then (if (wrap64 ((t175.size : Int) - 22)) ≤ (t175.size : Int) then (if 16 ≤ 20 then (if 20 ≤ ((t175.extract ((wrap64 ((t175.size : Int) - 22)) : Int).toNat t175.size).size : Int) then ((portageref10_Number.f kj6 ((t175.extract ((wrap64 ((t175.size : Int) - 22)) : Int).toNat t175.size).extract 16 20)).bind fun t179 => (if 8 ≤ 10 then (if 10 ≤ ((t175.extract ((wrap64 ((t175.size : Int) - 22)) : Int).toNat t175.size).size : Int) then ((portageref10_Number.f kj6 ((t175.extract ((wrap64 ((t175.size : Int) - 22)) : Int).toNat t175.size).extract 8 10)).bind fun t180 => (if t180 = (l0_0.length : Int) then (if 10 ≤ 12 then (if 12 ≤ ((t175.extract ((wrap64 ((t175.size : Int) - 22)) : Int).toNat t175.size).size : Int) then ((portageref10_Number.f kj6 ((t175.extract ((wrap64 ((t175.size : Int) - 22)) : Int).toNat t175.size).extract 10 12)).bind fun t181 => (if t181 = (l0_0.length : Int) then (if 12 ≤ 16 then (if 16 ≤ ((t175.extract ((wrap64 ((t175.size : Int) - 22)) : Int).toNat t175.size).size : Int) then ((portageref10_Number.f kj6 ((t175.extract ((wrap64 ((t175.size : Int) - 22)) : Int).toNat t175.size).extract 12 16)).bind fun t182 => (portagelaw13_ZipParts.j1 kj6 t175 t179 ((wrap64 ((wrap64 (t179 + t182)) + 22)) != (t175.size : Int)) l0_0)) else (none)) else (none)) else (portagelaw13_ZipParts.j1 kj6 t175 t179 true l0_0))) else (none)) else (none)) else (portagelaw13_ZipParts.j1 kj6 t175 t179 true l0_0))) else (none)) else (none))) else (none)) else (none)) else (none)) else (none)) = some r := by rw [if_neg (show ¬ (false = true) by decide)] at H; exact H
    clear H
    have H := H1
    clear H1
    obtain ⟨ji17, hji17⟩ : ∃ j_ : Int, (wrap64 ((t175.size : Int) - 22)) = j_ := ⟨_, rfl⟩
    replace H : (if 0 ≤ (ji17) then (if (ji17) ≤ (t175.size : Int) then (if 16 ≤ 20 then (if 20 ≤ ((t175.extract ((ji17) : Int).toNat t175.size).size : Int) then ((portageref10_Number.f kj6 ((t175.extract ((ji17) : Int).toNat t175.size).extract 16 20)).bind fun t179 => (if 8 ≤ 10 then (if 10 ≤ ((t175.extract ((ji17) : Int).toNat t175.size).size : Int) then ((portageref10_Number.f kj6 ((t175.extract ((ji17) : Int).toNat t175.size).extract 8 10)).bind fun t180 => (if t180 = (l0_0.length : Int) then (if 10 ≤ 12 then (if 12 ≤ ((t175.extract ((ji17) : Int).toNat t175.size).size : Int) then ((portageref10_Number.f kj6 ((t175.extract ((ji17) : Int).toNat t175.size).extract 10 12)).bind fun t181 => (if t181 = (l0_0.length : Int) then (if 12 ≤ 16 then (if 16 ≤ ((t175.extract ((ji17) : Int).toNat t175.size).size : Int) then ((portageref10_Number.f kj6 ((t175.extract ((ji17) : Int).toNat t175.size).extract 12 16)).bind fun t182 => (portagelaw13_ZipParts.j1 kj6 t175 t179 ((wrap64 ((wrap64 (t179 + t182)) + 22)) != (t175.size : Int)) l0_0)) else (none)) else (none)) else (portagelaw13_ZipParts.j1 kj6 t175 t179 true l0_0))) else (none)) else (none)) else (portagelaw13_ZipParts.j1 kj6 t175 t179 true l0_0))) else (none)) else (none))) else (none)) else (none)) else (none)) else (none)) = some r := by first | (rw [hji17] at H; exact H) | (simp only [hji17] at H ⊢; exact H)
    have hji17w : (IntKind.i64.wrap ((t175.size : Int) - 22)) = ji17 := (i64_w _).trans hji17
    by_cases c18 : 0 ≤ (ji17)
    rotate_left
    ·rw [if_neg c18] at H
     exact absurd H (by simp)
    rw [if_pos c18] at H
    have c18b0 := eq_true c18
    have c18b1 : decide (0 ≤ (ji17)) = true := decide_eq_true c18
    clear c18
    by_cases c19 : (ji17) ≤ (t175.size : Int)
    rotate_left
    ·rw [if_neg c19] at H
     exact absurd H (by simp)
    rw [if_pos c19] at H
    have c19b0 := eq_true c19
    have c19b1 : decide ((ji17) ≤ (t175.size : Int)) = true := decide_eq_true c19
    clear c19
    by_cases c20 : 16 ≤ 20
    rotate_left
    ·rw [if_neg c20] at H
     exact absurd H (by simp)
    rw [if_pos c20] at H
    have c20b0 := eq_true c20
    have c20b1 : decide (16 ≤ 20) = true := decide_eq_true c20
    clear c20
    by_cases c21 : 20 ≤ ((t175.extract ((ji17) : Int).toNat t175.size).size : Int)
    rotate_left
    ·rw [if_neg c21] at H
     exact absurd H (by simp)
    rw [if_pos c21] at H
    have c21b0 := eq_true c21
    have c21b1 : decide (20 ≤ ((t175.extract ((ji17) : Int).toNat t175.size).size : Int)) = true := decide_eq_true c21
    have c21b8 : (20 ≤ ((t175.size - ji17.toNat : Nat) : Int)) = True := eq_true (by have h_ := c21; rw [ByteArray.size_extract, Nat.min_self] at h_; exact h_)
    clear c21
    replace H := Option.bind_eq_some_iff.mp H
    obtain ⟨t179, A220, H⟩ := H
    replace H : (if 8 ≤ 10 then (if 10 ≤ ((t175.extract ((ji17) : Int).toNat t175.size).size : Int) then ((portageref10_Number.f kj6 ((t175.extract ((ji17) : Int).toNat t175.size).extract 8 10)).bind fun t180 => (if t180 = (l0_0.length : Int) then (if 10 ≤ 12 then (if 12 ≤ ((t175.extract ((ji17) : Int).toNat t175.size).size : Int) then ((portageref10_Number.f kj6 ((t175.extract ((ji17) : Int).toNat t175.size).extract 10 12)).bind fun t181 => (if t181 = (l0_0.length : Int) then (if 12 ≤ 16 then (if 16 ≤ ((t175.extract ((ji17) : Int).toNat t175.size).size : Int) then ((portageref10_Number.f kj6 ((t175.extract ((ji17) : Int).toNat t175.size).extract 12 16)).bind fun t182 => (portagelaw13_ZipParts.j1 kj6 t175 t179 ((wrap64 ((wrap64 (t179 + t182)) + 22)) != (t175.size : Int)) l0_0)) else (none)) else (none)) else (portagelaw13_ZipParts.j1 kj6 t175 t179 true l0_0))) else (none)) else (none)) else (portagelaw13_ZipParts.j1 kj6 t175 t179 true l0_0))) else (none)) else (none)) = some r := H
    have A22 := qas A220
    clear A220
    have HC23 := qas H
    clear H
    go_upto_region 10 with (first | ((with_reducible refine gate_callee (f := 26) rfl ?_); refine goesL_ (some 41) rfl rfl Tryd.func26 (by kernel_rfl) rfl #[.string ((t175.extract ((ji17) : Int).toNat t175.size).extract 16 20)] rfl (by (try simp only [List.map_toArray, List.map_cons, List.map_nil]); first | done | (simp only [ByteArray.size_append]; rfl) | (simp only [hji17]; rfl) | rfl | (simp only [List.length_drop, List.length_take]; rfl)) ?_; (with_reducible refine (portageref10_Number.calls kj6 ((t175.extract ((ji17) : Int).toNat t175.size).extract 16 20) t179 _ A22.out).mono ?_); rintro e w' ⟨rfl, ⟨nd, rfl⟩⟩; refine ⟨_, rfl, ?_⟩))
    (try simp only [Act.put, qsA, qsB, qsC])
    go_cut [68] (fun v68 wc => ∃ (kq : Nat) (x68_22 : Bool), v68 = .bool x68_22 ∧ Aside0 (portagelaw13_ZipParts.j1 kq t175 t179 x68_22 l0_0 = some r) ∧ Aside0 (kq ≤ kj6) ∧ Aside0 (wc.heap[gb173]? = some (.cells #[(.slice A0_0 l0_0.length c0_0)] 24 (0, 0))) ∧ Aside0 (Below w.heap.size w wc))
    case first =>
     as_aux_lemma =>
      have H := HC23.out
      clear HC23
      by_cases c24 : 8 ≤ 10
      rotate_left
      ·rw [if_neg c24] at H
       exact absurd H (by simp)
      rw [if_pos c24] at H
      have c24b0 := eq_true c24
      have c24b1 : decide (8 ≤ 10) = true := decide_eq_true c24
      clear c24
      by_cases c25 : 10 ≤ ((t175.extract ((ji17) : Int).toNat t175.size).size : Int)
      rotate_left
      ·rw [if_neg c25] at H
       exact absurd H (by simp)
      rw [if_pos c25] at H
      have c25b0 := eq_true c25
      have c25b1 : decide (10 ≤ ((t175.extract ((ji17) : Int).toNat t175.size).size : Int)) = true := decide_eq_true c25
      have c25b8 : (10 ≤ ((t175.size - ji17.toNat : Nat) : Int)) = True := eq_true (by have h_ := c25; rw [ByteArray.size_extract, Nat.min_self] at h_; exact h_)
      clear c25
      replace H := Option.bind_eq_some_iff.mp H
      obtain ⟨t180, A260, H⟩ := H
      replace H : (if t180 = (l0_0.length : Int) then (if 10 ≤ 12 then (if 12 ≤ ((t175.extract ((ji17) : Int).toNat t175.size).size : Int) then ((portageref10_Number.f kj6 ((t175.extract ((ji17) : Int).toNat t175.size).extract 10 12)).bind fun t181 => (if t181 = (l0_0.length : Int) then (if 12 ≤ 16 then (if 16 ≤ ((t175.extract ((ji17) : Int).toNat t175.size).size : Int) then ((portageref10_Number.f kj6 ((t175.extract ((ji17) : Int).toNat t175.size).extract 12 16)).bind fun t182 => (portagelaw13_ZipParts.j1 kj6 t175 t179 ((wrap64 ((wrap64 (t179 + t182)) + 22)) != (t175.size : Int)) l0_0)) else (none)) else (none)) else (portagelaw13_ZipParts.j1 kj6 t175 t179 true l0_0))) else (none)) else (none)) else (portagelaw13_ZipParts.j1 kj6 t175 t179 true l0_0)) = some r := H
      have A26 := qas A260
      clear A260
      by_cases c27 : t180 = (l0_0.length : Int)
      rotate_left
      ·rw [if_neg c27] at H
       have c27b0 : (t180 == (l0_0.length : Int)) = false := beq_eq_false_iff_ne.mpr c27
       have c27b1 : (t180 != (l0_0.length : Int)) = true := bne_iff_ne.mpr c27
       (first | rw [c27b0] | (simp only [i64_w, i32_w]; rw [c27b0]) | skip)
       have H' := qas H
       clear H
       try go_wp2
       (try (rw [drewN_self wc]; generalize hq_ : World.drewN wc _ = wc; have n0_ : Aside0 (wc.heap[gb173]? = some (.cells #[.slice A0_0 l0_0.length c0_0] 24 (0, 0))) := ⟨by rw [← hq_]; exact (by (with_reducible repeat (first | refine qkA ?_ _ | refine qkB ?_ | refine qkC ?_ _)); exact BK173.out)⟩; have n1_ : Aside0 (Below w.heap.size w wc) := ⟨by rw [← hq_]; exact (by repeat (first | (with_reducible first | exact HB.out | apply qbA | apply qbB | apply qbC | refine below_set ?_ GE173.out) | exact HB.out))⟩; clear BK173 HB hq_; have BK173 := n0_; have HB := n1_; clear n0_ n1_))
       have n0_ := qas (qkB BK173.out)
       have n1_ := qas (qbC HB.out)
       clear BK173
       clear HB
       have BK173 := n0_
       have HB := n1_
       clear n0_ n1_
       refine start_ (n := 27) (S := fun w' => w'.cell? ⟨gb173, 0, none⟩ = some (.slice A0_0 l0_0.length c0_0)) (ds := []) #[false, false, false, false, false, false, false, false, false, false, false, false, false, false, false, false, false, false, false, false, false, false, false, false, false, false, false] (by kernel_rfl) rfl rfl ((blk_cell BK173.out 0).trans rfl) (fun hHeld => ?_); refine with_tabW portagelaw13_ZipParts.tab10 portagelaw13_ZipParts.bits10 (fun HT_ HW_ => ?_)
       generalize wc.drew = w37 at BK173 HB hHeld ⊢
       refine pure_ (i := 0) (N := some 42) (v := ?_) (a' := ?_) #[true, false, false, false, false, false, false, false, false, false, false, false, false, false, false, false, false, false, false, false, false, false, false, false, false, false, false] rfl rfl (any_of HT_.out (by kernel_rfl)) (fun _ _ _ h => h) (Or.inl ⟨by rfl, ?_⟩) ?_ ?_
       rotate_left
       ·intro w'
        go_simp
        with_reducible rfl
       rotate_left
       ·simp only [Act.put, qsA, qsB, qsC, i64_w, i32_w, qsD, qsE]
        rfl
       refine pure_ (i := 1) (N := some 43) (v := ?_) (a' := ?_) #[true, true, false, false, false, false, false, false, false, false, false, false, false, false, false, false, false, false, false, false, false, false, false, false, false, false, false] rfl rfl (any_of HT_.out (by kernel_rfl)) (fun _ _ _ h => h) (Or.inl ⟨by rfl, ?_⟩) ?_ ?_
       rotate_left
       ·intro w'
        go_simp
        with_reducible rfl
       rotate_left
       ·simp only [Act.put, qsA, qsB, qsC, i64_w, i32_w, qsD, qsE]
        rfl
       refine pure_ (i := 3) (N := some 45) (v := ?_) (a' := ?_) #[true, true, false, true, false, false, false, false, false, false, false, false, false, false, false, false, false, false, false, false, false, false, false, false, false, false, false] rfl rfl (any_of HT_.out (by kernel_rfl)) (fun _ _ _ h => h) (Or.inl ⟨by rfl, ?_⟩) ?_ ?_
       rotate_left
       ·intro w'
        go_simp
        with_reducible rfl
       rotate_left
       ·simp only [Act.put, qsA, qsB, qsC, i64_w, i32_w, qsD, qsE]
        rfl
       refine take_ (i := 4) (N := some 46) (v := ?_) (a' := ?_) #[true, true, false, true, true, false, false, false, false, false, false, false, false, false, false, false, false, false, false, false, false, false, false, false, false, false, false] rfl rfl (take_ofW HT_.out HW_.out (by kernel_rfl)) (fun _ _ _ h => h) (Or.inl ⟨by rfl, ?_⟩) hHeld ?_ ?_
       rotate_left
       ·intro w' s0
        go_simp
        with_reducible rfl
       rotate_left
       ·simp only [Act.put, qsA, qsB, qsC, i64_w, i32_w, qsD, qsE]
        rfl
       refine pure_ (i := 5) (N := some 47) (v := ?_) (a' := ?_) #[true, true, false, true, true, true, false, false, false, false, false, false, false, false, false, false, false, false, false, false, false, false, false, false, false, false, false] rfl rfl (any_of HT_.out (by kernel_rfl)) (fun _ _ _ h => h) (Or.inl ⟨by rfl, ?_⟩) ?_ ?_
       rotate_left
       ·intro w'
        go_simp
        with_reducible rfl
       rotate_left
       ·simp only [Act.put, qsA, qsB, qsC, i64_w, i32_w, qsD, qsE]
        rfl
       refine one_ (i := 2) (N := some 44) #[true, true, true, true, true, true, false, false, false, false, false, false, false, false, false, false, false, false, false, false, false, false, false, false, false, false, false] rfl rfl (one_of HT_.out (by kernel_rfl)) (by decide) (fun K hK => ?_)
       refine goes_ Tryd.func26 (by kernel_rfl) rfl #[.string ((t175.extract ((ji17) : Int).toNat t175.size).extract 8 10)] (by rfl) rfl rfl (by (try simp only [List.map_toArray, List.map_cons, List.map_nil]); first | done | (simp only [hji17]; rfl) | rfl | (simp only [List.length_drop, List.length_take]; rfl)) ?_
       with_reducible refine (portageref10_Number.calls kj6 ((t175.extract ((ji17) : Int).toNat t175.size).extract 8 10) t180 _ A26.out).mono ?_
       rintro e w' ⟨rfl, ⟨nd, rfl⟩⟩
       refine ⟨_, rfl, ?_⟩
       refine hK.out _ _ ((blk_cell BK173.out 0).trans rfl) (fun hHeld => ?_)
       clear hK K
       refine norm_ (a' := ?_) ?_ ?_
       rotate_left
       ·show Act.put _ (some 44) _ = _
        simp only [Act.put, qsA, qsB, qsC, i64_w, i32_w, qsD, qsE]
        rfl
       refine pure_ (i := 6) (N := some 48) (v := ?_) (a' := ?_) #[true, true, true, true, true, true, true, false, false, false, false, false, false, false, false, false, false, false, false, false, false, false, false, false, false, false, false] rfl rfl (any_of HT_.out (by kernel_rfl)) (fun _ _ _ h => h) (Or.inl ⟨by rfl, ?_⟩) ?_ ?_
       rotate_left
       ·intro w'
        go_simp
        with_reducible rfl
       rotate_left
       ·simp only [Act.put, qsA, qsB, qsC, i64_w, i32_w, qsD, qsE]
        rfl
       refine pure_ (i := 7) (N := some 49) (v := ?_) (a' := ?_) #[true, true, true, true, true, true, true, true, false, false, false, false, false, false, false, false, false, false, false, false, false, false, false, false, false, false, false] rfl rfl (any_of HT_.out (by kernel_rfl)) (fun _ _ _ h => h) (Or.inl ⟨by rfl, ?_⟩) ?_ ?_
       rotate_left
       ·intro w'
        go_simp
        with_reducible rfl
       rotate_left
       ·simp only [Act.put, qsA, qsB, qsC, i64_w, i32_w, qsD, qsE]
        rfl
       refine pure_ (i := 8) (N := some 50) (v := undef) (a' := ?_) #[true, true, true, true, true, true, true, true, true, false, false, false, false, false, false, false, false, false, false, false, false, false, false, false, false, false, false] rfl rfl (any_of HT_.out (by kernel_rfl)) (fun _ _ _ h => h) (Or.inr ⟨by rfl, rfl⟩) ?_ ?_
       rotate_left
       ·simp only [Act.put, qsA, qsB, qsC, i64_w, i32_w, qsD, qsE]
        rfl
       refine pure_ (i := 9) (N := some 51) (v := undef) (a' := ?_) #[true, true, true, true, true, true, true, true, true, true, false, false, false, false, false, false, false, false, false, false, false, false, false, false, false, false, false] rfl rfl (any_of HT_.out (by kernel_rfl)) (fun _ _ _ h => h) (Or.inr ⟨by rfl, rfl⟩) ?_ ?_
       rotate_left
       ·simp only [Act.put, qsA, qsB, qsC, i64_w, i32_w, qsD, qsE]
        rfl
       refine pure_ (i := 10) (N := some 52) (v := undef) (a' := ?_) #[true, true, true, true, true, true, true, true, true, true, true, false, false, false, false, false, false, false, false, false, false, false, false, false, false, false, false] rfl rfl (any_of HT_.out (by kernel_rfl)) (fun _ _ _ h => h) (Or.inr ⟨by rfl, rfl⟩) ?_ ?_
       rotate_left
       ·simp only [Act.put, qsA, qsB, qsC, i64_w, i32_w, qsD, qsE]
        rfl
       refine pure_ (i := 11) (N := some 53) (v := undef) (a' := ?_) #[true, true, true, true, true, true, true, true, true, true, true, true, false, false, false, false, false, false, false, false, false, false, false, false, false, false, false] rfl rfl (any_of HT_.out (by kernel_rfl)) (fun _ _ _ h => h) (Or.inr ⟨by rfl, rfl⟩) ?_ ?_
       rotate_left
       ·simp only [Act.put, qsA, qsB, qsC, i64_w, i32_w, qsD, qsE]
        rfl
       refine pure_ (i := 12) (N := some 54) (v := undef) (a' := ?_) #[true, true, true, true, true, true, true, true, true, true, true, true, true, false, false, false, false, false, false, false, false, false, false, false, false, false, false] rfl rfl (any_of HT_.out (by kernel_rfl)) (fun _ _ _ h => h) (Or.inr ⟨by rfl, rfl⟩) ?_ ?_
       rotate_left
       ·simp only [Act.put, qsA, qsB, qsC, i64_w, i32_w, qsD, qsE]
        rfl
       refine pure_ (i := 13) (N := some 55) (v := undef) (a' := ?_) #[true, true, true, true, true, true, true, true, true, true, true, true, true, true, false, false, false, false, false, false, false, false, false, false, false, false, false] rfl rfl (any_of HT_.out (by kernel_rfl)) (fun _ _ _ h => h) (Or.inr ⟨by rfl, rfl⟩) ?_ ?_
       rotate_left
       ·simp only [Act.put, qsA, qsB, qsC, i64_w, i32_w, qsD, qsE]
        rfl
       refine pure_ (i := 14) (N := some 56) (v := undef) (a' := ?_) #[true, true, true, true, true, true, true, true, true, true, true, true, true, true, true, false, false, false, false, false, false, false, false, false, false, false, false] rfl rfl (any_of HT_.out (by kernel_rfl)) (fun _ _ _ h => h) (Or.inr ⟨by rfl, rfl⟩) ?_ ?_
       rotate_left
       ·simp only [Act.put, qsA, qsB, qsC, i64_w, i32_w, qsD, qsE]
        rfl
       refine pure_ (i := 15) (N := some 57) (v := ?_) (a' := ?_) #[true, true, true, true, true, true, true, true, true, true, true, true, true, true, true, true, false, false, false, false, false, false, false, false, false, false, false] rfl rfl (any_of HT_.out (by kernel_rfl)) (fun _ _ _ h => h) (Or.inl ⟨by rfl, ?_⟩) ?_ ?_
       rotate_left
       ·intro w'
        go_simp
        with_reducible rfl
       rotate_left
       ·simp only [Act.put, qsA, qsB, qsC, i64_w, i32_w, qsD, qsE]
        rfl
       refine pure_ (i := 16) (N := some 58) (v := ?_) (a' := ?_) #[true, true, true, true, true, true, true, true, true, true, true, true, true, true, true, true, true, false, false, false, false, false, false, false, false, false, false] rfl rfl (any_of HT_.out (by kernel_rfl)) (fun _ _ _ h => h) (Or.inl ⟨by rfl, ?_⟩) ?_ ?_
       rotate_left
       ·intro w'
        go_simp
        with_reducible rfl
       rotate_left
       ·simp only [Act.put, qsA, qsB, qsC, i64_w, i32_w, qsD, qsE]
        rfl
       refine pure_ (i := 17) (N := some 59) (v := undef) (a' := ?_) #[true, true, true, true, true, true, true, true, true, true, true, true, true, true, true, true, true, true, false, false, false, false, false, false, false, false, false] rfl rfl (any_of HT_.out (by kernel_rfl)) (fun _ _ _ h => h) (Or.inr ⟨by rfl, rfl⟩) ?_ ?_
       rotate_left
       ·simp only [Act.put, qsA, qsB, qsC, i64_w, i32_w, qsD, qsE]
        rfl
       refine pure_ (i := 18) (N := some 60) (v := undef) (a' := ?_) #[true, true, true, true, true, true, true, true, true, true, true, true, true, true, true, true, true, true, true, false, false, false, false, false, false, false, false] rfl rfl (any_of HT_.out (by kernel_rfl)) (fun _ _ _ h => h) (Or.inr ⟨by rfl, rfl⟩) ?_ ?_
       rotate_left
       ·simp only [Act.put, qsA, qsB, qsC, i64_w, i32_w, qsD, qsE]
        rfl
       refine pure_ (i := 19) (N := some 61) (v := undef) (a' := ?_) #[true, true, true, true, true, true, true, true, true, true, true, true, true, true, true, true, true, true, true, true, false, false, false, false, false, false, false] rfl rfl (any_of HT_.out (by kernel_rfl)) (fun _ _ _ h => h) (Or.inr ⟨by rfl, rfl⟩) ?_ ?_
       rotate_left
       ·simp only [Act.put, qsA, qsB, qsC, i64_w, i32_w, qsD, qsE]
        rfl
       refine pure_ (i := 20) (N := some 62) (v := undef) (a' := ?_) #[true, true, true, true, true, true, true, true, true, true, true, true, true, true, true, true, true, true, true, true, true, false, false, false, false, false, false] rfl rfl (any_of HT_.out (by kernel_rfl)) (fun _ _ _ h => h) (Or.inr ⟨by rfl, rfl⟩) ?_ ?_
       rotate_left
       ·simp only [Act.put, qsA, qsB, qsC, i64_w, i32_w, qsD, qsE]
        rfl
       refine pure_ (i := 21) (N := some 63) (v := undef) (a' := ?_) #[true, true, true, true, true, true, true, true, true, true, true, true, true, true, true, true, true, true, true, true, true, true, false, false, false, false, false] rfl rfl (any_of HT_.out (by kernel_rfl)) (fun _ _ _ h => h) (Or.inr ⟨by rfl, rfl⟩) ?_ ?_
       rotate_left
       ·simp only [Act.put, qsA, qsB, qsC, i64_w, i32_w, qsD, qsE]
        rfl
       refine pure_ (i := 22) (N := some 64) (v := undef) (a' := ?_) #[true, true, true, true, true, true, true, true, true, true, true, true, true, true, true, true, true, true, true, true, true, true, true, false, false, false, false] rfl rfl (any_of HT_.out (by kernel_rfl)) (fun _ _ _ h => h) (Or.inr ⟨by rfl, rfl⟩) ?_ ?_
       rotate_left
       ·simp only [Act.put, qsA, qsB, qsC, i64_w, i32_w, qsD, qsE]
        rfl
       refine pure_ (i := 23) (N := some 65) (v := undef) (a' := ?_) #[true, true, true, true, true, true, true, true, true, true, true, true, true, true, true, true, true, true, true, true, true, true, true, true, false, false, false] rfl rfl (any_of HT_.out (by kernel_rfl)) (fun _ _ _ h => h) (Or.inr ⟨by rfl, rfl⟩) ?_ ?_
       rotate_left
       ·simp only [Act.put, qsA, qsB, qsC, i64_w, i32_w, qsD, qsE]
        rfl
       refine pure_ (i := 24) (N := some 66) (v := undef) (a' := ?_) #[true, true, true, true, true, true, true, true, true, true, true, true, true, true, true, true, true, true, true, true, true, true, true, true, true, false, false] rfl rfl (any_of HT_.out (by kernel_rfl)) (fun _ _ _ h => h) (Or.inr ⟨by rfl, rfl⟩) ?_ ?_
       rotate_left
       ·simp only [Act.put, qsA, qsB, qsC, i64_w, i32_w, qsD, qsE]
        rfl
       refine pure_ (i := 25) (N := some 67) (v := undef) (a' := ?_) #[true, true, true, true, true, true, true, true, true, true, true, true, true, true, true, true, true, true, true, true, true, true, true, true, true, true, false] rfl rfl (any_of HT_.out (by kernel_rfl)) (fun _ _ _ h => h) (Or.inr ⟨by rfl, rfl⟩) ?_ ?_
       rotate_left
       ·simp only [Act.put, qsA, qsB, qsC, i64_w, i32_w, qsD, qsE]
        rfl
       refine pure_ (i := 26) (N := some 68) (v := ?_) (a' := ?_) #[true, true, true, true, true, true, true, true, true, true, true, true, true, true, true, true, true, true, true, true, true, true, true, true, true, true, true] rfl rfl (any_of HT_.out (by kernel_rfl)) (fun _ _ _ h => h) (Or.inl ⟨by rfl, ?_⟩) ?_ ?_
       rotate_left
       ·intro w'
        go_simp
        with_reducible rfl
       rotate_left
       ·simp only [Act.put, qsA, qsB, qsC, i64_w, i32_w, qsD, qsE]
        rfl
       refine done_ (done_of HT_.out (by kernel_rfl)) ?_
       try go_wp2
       go_meet
       case rel => exact ⟨_, (true), (by first | rfl | (simp; done) | (simp [*]; done)), H', ⟨by have := HJ6.out; first | omega | exact Nat.le_refl _⟩, ⟨by (with_reducible repeat (first | refine qkA ?_ _ | refine qkB ?_ | refine qkC ?_ _)); exact BK173.out⟩, ⟨by repeat (first | (with_reducible first | exact HB.out | apply qbA | apply qbB | apply qbC | refine below_set ?_ GE173.out) | exact HB.out)⟩⟩
      rw [if_pos c27] at H
      have c27b0 : (t180 == (l0_0.length : Int)) = true := beq_iff_eq.mpr c27
      have c27b1 : (t180 != (l0_0.length : Int)) = false := bne_eq_false_iff_eq.mpr c27
      clear c27
      (first | rw [c27b0] | (simp only [i64_w, i32_w]; rw [c27b0]) | skip)
      by_cases c28 : 10 ≤ 12
      rotate_left
      ·rw [if_neg c28] at H
       exact absurd H (by simp)
      rw [if_pos c28] at H
      have c28b0 := eq_true c28
      have c28b1 : decide (10 ≤ 12) = true := decide_eq_true c28
      clear c28
      by_cases c29 : 12 ≤ ((t175.extract ((ji17) : Int).toNat t175.size).size : Int)
      rotate_left
      ·rw [if_neg c29] at H
       exact absurd H (by simp)
      rw [if_pos c29] at H
      have c29b0 := eq_true c29
      have c29b1 : decide (12 ≤ ((t175.extract ((ji17) : Int).toNat t175.size).size : Int)) = true := decide_eq_true c29
      have c29b8 : (12 ≤ ((t175.size - ji17.toNat : Nat) : Int)) = True := eq_true (by have h_ := c29; rw [ByteArray.size_extract, Nat.min_self] at h_; exact h_)
      clear c29
      replace H := Option.bind_eq_some_iff.mp H
      obtain ⟨t181, A300, H⟩ := H
      replace H : (if t181 = (l0_0.length : Int) then (if 12 ≤ 16 then (if 16 ≤ ((t175.extract ((ji17) : Int).toNat t175.size).size : Int) then ((portageref10_Number.f kj6 ((t175.extract ((ji17) : Int).toNat t175.size).extract 12 16)).bind fun t182 => (portagelaw13_ZipParts.j1 kj6 t175 t179 ((wrap64 ((wrap64 (t179 + t182)) + 22)) != (t175.size : Int)) l0_0)) else (none)) else (none)) else (portagelaw13_ZipParts.j1 kj6 t175 t179 true l0_0)) = some r := H
      have A30 := qas A300
      clear A300
      by_cases c31 : t181 = (l0_0.length : Int)
      rotate_left
      ·rw [if_neg c31] at H
       have c31b0 : (t181 == (l0_0.length : Int)) = false := beq_eq_false_iff_ne.mpr c31
       have c31b1 : (t181 != (l0_0.length : Int)) = true := bne_iff_ne.mpr c31
       have H' := qas H
       clear H
       try go_wp2
       (try (rw [drewN_self wc]; generalize hq_ : World.drewN wc _ = wc; have n0_ : Aside0 (wc.heap[gb173]? = some (.cells #[.slice A0_0 l0_0.length c0_0] 24 (0, 0))) := ⟨by rw [← hq_]; exact (by (with_reducible repeat (first | refine qkA ?_ _ | refine qkB ?_ | refine qkC ?_ _)); exact BK173.out)⟩; have n1_ : Aside0 (Below w.heap.size w wc) := ⟨by rw [← hq_]; exact (by repeat (first | (with_reducible first | exact HB.out | apply qbA | apply qbB | apply qbC | refine below_set ?_ GE173.out) | exact HB.out))⟩; clear BK173 HB hq_; have BK173 := n0_; have HB := n1_; clear n0_ n1_))
       have n0_ := qas (qkB BK173.out)
       have n1_ := qas (qbC HB.out)
       clear BK173
       clear HB
       have BK173 := n0_
       have HB := n1_
       clear n0_ n1_
       refine start_ (n := 27) (S := fun w' => w'.cell? ⟨gb173, 0, none⟩ = some (.slice A0_0 l0_0.length c0_0)) (ds := []) #[false, false, false, false, false, false, false, false, false, false, false, false, false, false, false, false, false, false, false, false, false, false, false, false, false, false, false] (by kernel_rfl) rfl rfl ((blk_cell BK173.out 0).trans rfl) (fun hHeld => ?_); refine with_tabW portagelaw13_ZipParts.tab10 portagelaw13_ZipParts.bits10 (fun HT_ HW_ => ?_)
       generalize wc.drew = w36 at BK173 HB hHeld ⊢
       refine pure_ (i := 0) (N := some 42) (v := ?_) (a' := ?_) #[true, false, false, false, false, false, false, false, false, false, false, false, false, false, false, false, false, false, false, false, false, false, false, false, false, false, false] rfl rfl (any_of HT_.out (by kernel_rfl)) (fun _ _ _ h => h) (Or.inl ⟨by rfl, ?_⟩) ?_ ?_
       rotate_left
       ·intro w'
        go_simp
        with_reducible rfl
       rotate_left
       ·simp only [Act.put, qsA, qsB, qsC, i64_w, i32_w, qsD, qsE]
        rfl
       refine pure_ (i := 1) (N := some 43) (v := ?_) (a' := ?_) #[true, true, false, false, false, false, false, false, false, false, false, false, false, false, false, false, false, false, false, false, false, false, false, false, false, false, false] rfl rfl (any_of HT_.out (by kernel_rfl)) (fun _ _ _ h => h) (Or.inl ⟨by rfl, ?_⟩) ?_ ?_
       rotate_left
       ·intro w'
        go_simp
        with_reducible rfl
       rotate_left
       ·simp only [Act.put, qsA, qsB, qsC, i64_w, i32_w, qsD, qsE]
        rfl
       refine pure_ (i := 3) (N := some 45) (v := ?_) (a' := ?_) #[true, true, false, true, false, false, false, false, false, false, false, false, false, false, false, false, false, false, false, false, false, false, false, false, false, false, false] rfl rfl (any_of HT_.out (by kernel_rfl)) (fun _ _ _ h => h) (Or.inl ⟨by rfl, ?_⟩) ?_ ?_
       rotate_left
       ·intro w'
        go_simp
        with_reducible rfl
       rotate_left
       ·simp only [Act.put, qsA, qsB, qsC, i64_w, i32_w, qsD, qsE]
        rfl
       refine take_ (i := 4) (N := some 46) (v := ?_) (a' := ?_) #[true, true, false, true, true, false, false, false, false, false, false, false, false, false, false, false, false, false, false, false, false, false, false, false, false, false, false] rfl rfl (take_ofW HT_.out HW_.out (by kernel_rfl)) (fun _ _ _ h => h) (Or.inl ⟨by rfl, ?_⟩) hHeld ?_ ?_
       rotate_left
       ·intro w' s0
        go_simp
        with_reducible rfl
       rotate_left
       ·simp only [Act.put, qsA, qsB, qsC, i64_w, i32_w, qsD, qsE]
        rfl
       refine pure_ (i := 5) (N := some 47) (v := ?_) (a' := ?_) #[true, true, false, true, true, true, false, false, false, false, false, false, false, false, false, false, false, false, false, false, false, false, false, false, false, false, false] rfl rfl (any_of HT_.out (by kernel_rfl)) (fun _ _ _ h => h) (Or.inl ⟨by rfl, ?_⟩) ?_ ?_
       rotate_left
       ·intro w'
        go_simp
        with_reducible rfl
       rotate_left
       ·simp only [Act.put, qsA, qsB, qsC, i64_w, i32_w, qsD, qsE]
        rfl
       refine one_ (i := 2) (N := some 44) #[true, true, true, true, true, true, false, false, false, false, false, false, false, false, false, false, false, false, false, false, false, false, false, false, false, false, false] rfl rfl (one_of HT_.out (by kernel_rfl)) (by decide) (fun K hK => ?_)
       refine goes_ Tryd.func26 (by kernel_rfl) rfl #[.string ((t175.extract ((ji17) : Int).toNat t175.size).extract 8 10)] (by rfl) rfl rfl (by (try simp only [List.map_toArray, List.map_cons, List.map_nil]); first | done | (simp only [hji17]; rfl) | rfl | (simp only [List.length_drop, List.length_take]; rfl)) ?_
       with_reducible refine (portageref10_Number.calls kj6 ((t175.extract ((ji17) : Int).toNat t175.size).extract 8 10) t180 _ A26.out).mono ?_
       rintro e w' ⟨rfl, ⟨nd, rfl⟩⟩
       refine ⟨_, rfl, ?_⟩
       refine hK.out _ _ ((blk_cell BK173.out 0).trans rfl) (fun hHeld => ?_)
       clear hK K
       refine norm_ (a' := ?_) ?_ ?_
       rotate_left
       ·show Act.put _ (some 44) _ = _
        simp only [Act.put, qsA, qsB, qsC, i64_w, i32_w, qsD, qsE]
        rfl
       refine pure_ (i := 6) (N := some 48) (v := ?_) (a' := ?_) #[true, true, true, true, true, true, true, false, false, false, false, false, false, false, false, false, false, false, false, false, false, false, false, false, false, false, false] rfl rfl (any_of HT_.out (by kernel_rfl)) (fun _ _ _ h => h) (Or.inl ⟨by rfl, ?_⟩) ?_ ?_
       rotate_left
       ·intro w'
        go_simp
        with_reducible rfl
       rotate_left
       ·simp only [Act.put, qsA, qsB, qsC, i64_w, i32_w, qsD, qsE]
        rfl
       refine pure_ (i := 7) (N := some 49) (v := ?_) (a' := ?_) #[true, true, true, true, true, true, true, true, false, false, false, false, false, false, false, false, false, false, false, false, false, false, false, false, false, false, false] rfl rfl (any_of HT_.out (by kernel_rfl)) (fun _ _ _ h => h) (Or.inl ⟨by rfl, ?_⟩) ?_ ?_
       rotate_left
       ·intro w'
        go_simp
        with_reducible rfl
       rotate_left
       ·simp only [Act.put, qsA, qsB, qsC, i64_w, i32_w, qsD, qsE]
        rfl
       refine pure_ (i := 8) (N := some 50) (v := ?_) (a' := ?_) #[true, true, true, true, true, true, true, true, true, false, false, false, false, false, false, false, false, false, false, false, false, false, false, false, false, false, false] rfl rfl (any_of HT_.out (by kernel_rfl)) (fun _ _ _ h => h) (Or.inl ⟨by rfl, ?_⟩) ?_ ?_
       rotate_left
       ·intro w'
        go_simp
        with_reducible rfl
       rotate_left
       ·simp only [Act.put, qsA, qsB, qsC, i64_w, i32_w, qsD, qsE]
        rfl
       refine pure_ (i := 9) (N := some 51) (v := ?_) (a' := ?_) #[true, true, true, true, true, true, true, true, true, true, false, false, false, false, false, false, false, false, false, false, false, false, false, false, false, false, false] rfl rfl (any_of HT_.out (by kernel_rfl)) (fun _ _ _ h => h) (Or.inl ⟨by rfl, ?_⟩) ?_ ?_
       rotate_left
       ·intro w'
        go_simp
        with_reducible rfl
       rotate_left
       ·simp only [Act.put, qsA, qsB, qsC, i64_w, i32_w, qsD, qsE]
        rfl
       refine pure_ (i := 11) (N := some 53) (v := ?_) (a' := ?_) #[true, true, true, true, true, true, true, true, true, true, false, true, false, false, false, false, false, false, false, false, false, false, false, false, false, false, false] rfl rfl (any_of HT_.out (by kernel_rfl)) (fun _ _ _ h => h) (Or.inl ⟨by rfl, ?_⟩) ?_ ?_
       rotate_left
       ·intro w'
        go_simp
        with_reducible rfl
       rotate_left
       ·simp only [Act.put, qsA, qsB, qsC, i64_w, i32_w, qsD, qsE]
        rfl
       refine take_ (i := 12) (N := some 54) (v := ?_) (a' := ?_) #[true, true, true, true, true, true, true, true, true, true, false, true, true, false, false, false, false, false, false, false, false, false, false, false, false, false, false] rfl rfl (take_ofW HT_.out HW_.out (by kernel_rfl)) (fun _ _ _ h => h) (Or.inl ⟨by rfl, ?_⟩) hHeld ?_ ?_
       rotate_left
       ·intro w' s0
        go_simp
        with_reducible rfl
       rotate_left
       ·simp only [Act.put, qsA, qsB, qsC, i64_w, i32_w, qsD, qsE]
        rfl
       refine pure_ (i := 13) (N := some 55) (v := ?_) (a' := ?_) #[true, true, true, true, true, true, true, true, true, true, false, true, true, true, false, false, false, false, false, false, false, false, false, false, false, false, false] rfl rfl (any_of HT_.out (by kernel_rfl)) (fun _ _ _ h => h) (Or.inl ⟨by rfl, ?_⟩) ?_ ?_
       rotate_left
       ·intro w'
        go_simp
        with_reducible rfl
       rotate_left
       ·simp only [Act.put, qsA, qsB, qsC, i64_w, i32_w, qsD, qsE]
        rfl
       refine one_ (i := 10) (N := some 52) #[true, true, true, true, true, true, true, true, true, true, true, true, true, true, false, false, false, false, false, false, false, false, false, false, false, false, false] rfl rfl (one_of HT_.out (by kernel_rfl)) (by decide) (fun K hK => ?_)
       refine goes_ Tryd.func26 (by kernel_rfl) rfl #[.string ((t175.extract ((ji17) : Int).toNat t175.size).extract 10 12)] (by rfl) rfl rfl (by (try simp only [List.map_toArray, List.map_cons, List.map_nil]); first | done | (simp only [hji17]; rfl) | rfl | (simp only [List.length_drop, List.length_take]; rfl)) ?_
       with_reducible refine (portageref10_Number.calls kj6 ((t175.extract ((ji17) : Int).toNat t175.size).extract 10 12) t181 _ A30.out).mono ?_
       rintro e w' ⟨rfl, ⟨nd, rfl⟩⟩
       refine ⟨_, rfl, ?_⟩
       refine hK.out _ _ ((blk_cell BK173.out 0).trans rfl) (fun hHeld => ?_)
       clear hK K
       refine norm_ (a' := ?_) ?_ ?_
       rotate_left
       ·show Act.put _ (some 52) _ = _
        simp only [Act.put, qsA, qsB, qsC, i64_w, i32_w, qsD, qsE]
        rfl
       refine pure_ (i := 14) (N := some 56) (v := ?_) (a' := ?_) #[true, true, true, true, true, true, true, true, true, true, true, true, true, true, true, false, false, false, false, false, false, false, false, false, false, false, false] rfl rfl (any_of HT_.out (by kernel_rfl)) (fun _ _ _ h => h) (Or.inl ⟨by rfl, ?_⟩) ?_ ?_
       rotate_left
       ·intro w'
        go_simp
        with_reducible rfl
       rotate_left
       ·simp only [Act.put, qsA, qsB, qsC, i64_w, i32_w, qsD, qsE]
        rfl
       refine pure_ (i := 15) (N := some 57) (v := ?_) (a' := ?_) #[true, true, true, true, true, true, true, true, true, true, true, true, true, true, true, true, false, false, false, false, false, false, false, false, false, false, false] rfl rfl (any_of HT_.out (by kernel_rfl)) (fun _ _ _ h => h) (Or.inl ⟨by rfl, ?_⟩) ?_ ?_
       rotate_left
       ·intro w'
        go_simp
        with_reducible rfl
       rotate_left
       ·simp only [Act.put, qsA, qsB, qsC, i64_w, i32_w, qsD, qsE]
        rfl
       refine pure_ (i := 16) (N := some 58) (v := ?_) (a' := ?_) #[true, true, true, true, true, true, true, true, true, true, true, true, true, true, true, true, true, false, false, false, false, false, false, false, false, false, false] rfl rfl (any_of HT_.out (by kernel_rfl)) (fun _ _ _ h => h) (Or.inl ⟨by rfl, ?_⟩) ?_ ?_
       rotate_left
       ·intro w'
        go_simp
        with_reducible rfl
       rotate_left
       ·simp only [Act.put, qsA, qsB, qsC, i64_w, i32_w, qsD, qsE]
        rfl
       refine pure_ (i := 17) (N := some 59) (v := undef) (a' := ?_) #[true, true, true, true, true, true, true, true, true, true, true, true, true, true, true, true, true, true, false, false, false, false, false, false, false, false, false] rfl rfl (any_of HT_.out (by kernel_rfl)) (fun _ _ _ h => h) (Or.inr ⟨by rfl, rfl⟩) ?_ ?_
       rotate_left
       ·simp only [Act.put, qsA, qsB, qsC, i64_w, i32_w, qsD, qsE]
        rfl
       refine pure_ (i := 18) (N := some 60) (v := undef) (a' := ?_) #[true, true, true, true, true, true, true, true, true, true, true, true, true, true, true, true, true, true, true, false, false, false, false, false, false, false, false] rfl rfl (any_of HT_.out (by kernel_rfl)) (fun _ _ _ h => h) (Or.inr ⟨by rfl, rfl⟩) ?_ ?_
       rotate_left
       ·simp only [Act.put, qsA, qsB, qsC, i64_w, i32_w, qsD, qsE]
        rfl
       refine pure_ (i := 19) (N := some 61) (v := undef) (a' := ?_) #[true, true, true, true, true, true, true, true, true, true, true, true, true, true, true, true, true, true, true, true, false, false, false, false, false, false, false] rfl rfl (any_of HT_.out (by kernel_rfl)) (fun _ _ _ h => h) (Or.inr ⟨by rfl, rfl⟩) ?_ ?_
       rotate_left
       ·simp only [Act.put, qsA, qsB, qsC, i64_w, i32_w, qsD, qsE]
        rfl
       refine pure_ (i := 20) (N := some 62) (v := undef) (a' := ?_) #[true, true, true, true, true, true, true, true, true, true, true, true, true, true, true, true, true, true, true, true, true, false, false, false, false, false, false] rfl rfl (any_of HT_.out (by kernel_rfl)) (fun _ _ _ h => h) (Or.inr ⟨by rfl, rfl⟩) ?_ ?_
       rotate_left
       ·simp only [Act.put, qsA, qsB, qsC, i64_w, i32_w, qsD, qsE]
        rfl
       refine pure_ (i := 21) (N := some 63) (v := undef) (a' := ?_) #[true, true, true, true, true, true, true, true, true, true, true, true, true, true, true, true, true, true, true, true, true, true, false, false, false, false, false] rfl rfl (any_of HT_.out (by kernel_rfl)) (fun _ _ _ h => h) (Or.inr ⟨by rfl, rfl⟩) ?_ ?_
       rotate_left
       ·simp only [Act.put, qsA, qsB, qsC, i64_w, i32_w, qsD, qsE]
        rfl
       refine pure_ (i := 22) (N := some 64) (v := undef) (a' := ?_) #[true, true, true, true, true, true, true, true, true, true, true, true, true, true, true, true, true, true, true, true, true, true, true, false, false, false, false] rfl rfl (any_of HT_.out (by kernel_rfl)) (fun _ _ _ h => h) (Or.inr ⟨by rfl, rfl⟩) ?_ ?_
       rotate_left
       ·simp only [Act.put, qsA, qsB, qsC, i64_w, i32_w, qsD, qsE]
        rfl
       refine pure_ (i := 23) (N := some 65) (v := undef) (a' := ?_) #[true, true, true, true, true, true, true, true, true, true, true, true, true, true, true, true, true, true, true, true, true, true, true, true, false, false, false] rfl rfl (any_of HT_.out (by kernel_rfl)) (fun _ _ _ h => h) (Or.inr ⟨by rfl, rfl⟩) ?_ ?_
       rotate_left
       ·simp only [Act.put, qsA, qsB, qsC, i64_w, i32_w, qsD, qsE]
        rfl
       refine pure_ (i := 24) (N := some 66) (v := undef) (a' := ?_) #[true, true, true, true, true, true, true, true, true, true, true, true, true, true, true, true, true, true, true, true, true, true, true, true, true, false, false] rfl rfl (any_of HT_.out (by kernel_rfl)) (fun _ _ _ h => h) (Or.inr ⟨by rfl, rfl⟩) ?_ ?_
       rotate_left
       ·simp only [Act.put, qsA, qsB, qsC, i64_w, i32_w, qsD, qsE]
        rfl
       refine pure_ (i := 25) (N := some 67) (v := undef) (a' := ?_) #[true, true, true, true, true, true, true, true, true, true, true, true, true, true, true, true, true, true, true, true, true, true, true, true, true, true, false] rfl rfl (any_of HT_.out (by kernel_rfl)) (fun _ _ _ h => h) (Or.inr ⟨by rfl, rfl⟩) ?_ ?_
       rotate_left
       ·simp only [Act.put, qsA, qsB, qsC, i64_w, i32_w, qsD, qsE]
        rfl
       refine pure_ (i := 26) (N := some 68) (v := ?_) (a' := ?_) #[true, true, true, true, true, true, true, true, true, true, true, true, true, true, true, true, true, true, true, true, true, true, true, true, true, true, true] rfl rfl (any_of HT_.out (by kernel_rfl)) (fun _ _ _ h => h) (Or.inl ⟨by rfl, ?_⟩) ?_ ?_
       rotate_left
       ·intro w'
        go_simp
        with_reducible rfl
       rotate_left
       ·simp only [Act.put, qsA, qsB, qsC, i64_w, i32_w, qsD, qsE]
        rfl
       refine done_ (done_of HT_.out (by kernel_rfl)) ?_
       try go_wp2
       go_meet
       case rel => exact ⟨_, (true), (by first | rfl | (simp; done) | (simp [*]; done)), H', ⟨by have := HJ6.out; first | omega | exact Nat.le_refl _⟩, ⟨by (with_reducible repeat (first | refine qkA ?_ _ | refine qkB ?_ | refine qkC ?_ _)); exact BK173.out⟩, ⟨by repeat (first | (with_reducible first | exact HB.out | apply qbA | apply qbB | apply qbC | refine below_set ?_ GE173.out) | exact HB.out)⟩⟩
      rw [if_pos c31] at H
      have c31b0 : (t181 == (l0_0.length : Int)) = true := beq_iff_eq.mpr c31
      have c31b1 : (t181 != (l0_0.length : Int)) = false := bne_eq_false_iff_eq.mpr c31
      clear c31
      by_cases c32 : 12 ≤ 16
      rotate_left
      ·rw [if_neg c32] at H
       exact absurd H (by simp)
      rw [if_pos c32] at H
      have c32b0 := eq_true c32
      have c32b1 : decide (12 ≤ 16) = true := decide_eq_true c32
      clear c32
      by_cases c33 : 16 ≤ ((t175.extract ((ji17) : Int).toNat t175.size).size : Int)
      rotate_left
      ·rw [if_neg c33] at H
       exact absurd H (by simp)
      rw [if_pos c33] at H
      have c33b0 := eq_true c33
      have c33b1 : decide (16 ≤ ((t175.extract ((ji17) : Int).toNat t175.size).size : Int)) = true := decide_eq_true c33
      have c33b8 : (16 ≤ ((t175.size - ji17.toNat : Nat) : Int)) = True := eq_true (by have h_ := c33; rw [ByteArray.size_extract, Nat.min_self] at h_; exact h_)
      clear c33
      replace H := Option.bind_eq_some_iff.mp H
      obtain ⟨t182, A340, H⟩ := H
      replace H : (portagelaw13_ZipParts.j1 kj6 t175 t179 ((wrap64 ((wrap64 (t179 + t182)) + 22)) != (t175.size : Int)) l0_0) = some r := H
      have A34 := qas A340
      clear A340
      have H' := qas H
      clear H
      try go_wp2
      generalize hq_ : World.drewN wc _ = wq
      have m0_ : Aside0 (wq.heap[gb173]? = some (.cells #[.slice A0_0 l0_0.length c0_0] 24 (0, 0))) := ⟨by rw [← hq_]; exact qkA BK173.out _⟩
      have m1_ : Aside0 (Below w.heap.size w wq) := ⟨by rw [← hq_]; exact qbB HB.out _⟩
      clear BK173 HB hq_
      have BK173 := m0_
      have HB := m1_
      clear m0_ m1_
      have n0_ := qas (qkB BK173.out)
      have n1_ := qas (qbC HB.out)
      clear BK173
      clear HB
      have BK173 := n0_
      have HB := n1_
      clear n0_ n1_
      refine start_ (n := 27) (S := fun w' => w'.cell? ⟨gb173, 0, none⟩ = some (.slice A0_0 l0_0.length c0_0)) (ds := []) #[false, false, false, false, false, false, false, false, false, false, false, false, false, false, false, false, false, false, false, false, false, false, false, false, false, false, false] (by kernel_rfl) rfl rfl ((blk_cell BK173.out 0).trans rfl) (fun hHeld => ?_); refine with_tabW portagelaw13_ZipParts.tab10 portagelaw13_ZipParts.bits10 (fun HT_ HW_ => ?_)
      generalize wq.drew = w35 at BK173 HB hHeld ⊢
      refine pure_ (i := 0) (N := some 42) (v := ?_) (a' := ?_) #[true, false, false, false, false, false, false, false, false, false, false, false, false, false, false, false, false, false, false, false, false, false, false, false, false, false, false] rfl rfl (any_of HT_.out (by kernel_rfl)) (fun _ _ _ h => h) (Or.inl ⟨by rfl, ?_⟩) ?_ ?_
      rotate_left
      ·intro w'
       go_simp
       with_reducible rfl
      rotate_left
      ·simp only [Act.put, qsA, qsB, qsC, i64_w, i32_w, qsD, qsE]
       rfl
      refine pure_ (i := 1) (N := some 43) (v := ?_) (a' := ?_) #[true, true, false, false, false, false, false, false, false, false, false, false, false, false, false, false, false, false, false, false, false, false, false, false, false, false, false] rfl rfl (any_of HT_.out (by kernel_rfl)) (fun _ _ _ h => h) (Or.inl ⟨by rfl, ?_⟩) ?_ ?_
      rotate_left
      ·intro w'
       go_simp
       with_reducible rfl
      rotate_left
      ·simp only [Act.put, qsA, qsB, qsC, i64_w, i32_w, qsD, qsE]
       rfl
      refine pure_ (i := 3) (N := some 45) (v := ?_) (a' := ?_) #[true, true, false, true, false, false, false, false, false, false, false, false, false, false, false, false, false, false, false, false, false, false, false, false, false, false, false] rfl rfl (any_of HT_.out (by kernel_rfl)) (fun _ _ _ h => h) (Or.inl ⟨by rfl, ?_⟩) ?_ ?_
      rotate_left
      ·intro w'
       go_simp
       with_reducible rfl
      rotate_left
      ·simp only [Act.put, qsA, qsB, qsC, i64_w, i32_w, qsD, qsE]
       rfl
      refine take_ (i := 4) (N := some 46) (v := ?_) (a' := ?_) #[true, true, false, true, true, false, false, false, false, false, false, false, false, false, false, false, false, false, false, false, false, false, false, false, false, false, false] rfl rfl (take_ofW HT_.out HW_.out (by kernel_rfl)) (fun _ _ _ h => h) (Or.inl ⟨by rfl, ?_⟩) hHeld ?_ ?_
      rotate_left
      ·intro w' s0
       go_simp
       with_reducible rfl
      rotate_left
      ·simp only [Act.put, qsA, qsB, qsC, i64_w, i32_w, qsD, qsE]
       rfl
      refine pure_ (i := 5) (N := some 47) (v := ?_) (a' := ?_) #[true, true, false, true, true, true, false, false, false, false, false, false, false, false, false, false, false, false, false, false, false, false, false, false, false, false, false] rfl rfl (any_of HT_.out (by kernel_rfl)) (fun _ _ _ h => h) (Or.inl ⟨by rfl, ?_⟩) ?_ ?_
      rotate_left
      ·intro w'
       go_simp
       with_reducible rfl
      rotate_left
      ·simp only [Act.put, qsA, qsB, qsC, i64_w, i32_w, qsD, qsE]
       rfl
      refine one_ (i := 2) (N := some 44) #[true, true, true, true, true, true, false, false, false, false, false, false, false, false, false, false, false, false, false, false, false, false, false, false, false, false, false] rfl rfl (one_of HT_.out (by kernel_rfl)) (by decide) (fun K hK => ?_)
      refine goes_ Tryd.func26 (by kernel_rfl) rfl #[.string ((t175.extract ((ji17) : Int).toNat t175.size).extract 8 10)] (by rfl) rfl rfl (by (try simp only [List.map_toArray, List.map_cons, List.map_nil]); first | done | (simp only [hji17]; rfl) | rfl | (simp only [List.length_drop, List.length_take]; rfl)) ?_
      with_reducible refine (portageref10_Number.calls kj6 ((t175.extract ((ji17) : Int).toNat t175.size).extract 8 10) t180 _ A26.out).mono ?_
      rintro e w' ⟨rfl, ⟨nd, rfl⟩⟩
      refine ⟨_, rfl, ?_⟩
      refine hK.out _ _ ((blk_cell BK173.out 0).trans rfl) (fun hHeld => ?_)
      clear hK K
      refine norm_ (a' := ?_) ?_ ?_
      rotate_left
      ·show Act.put _ (some 44) _ = _
       simp only [Act.put, qsA, qsB, qsC, i64_w, i32_w, qsD, qsE]
       rfl
      refine pure_ (i := 6) (N := some 48) (v := ?_) (a' := ?_) #[true, true, true, true, true, true, true, false, false, false, false, false, false, false, false, false, false, false, false, false, false, false, false, false, false, false, false] rfl rfl (any_of HT_.out (by kernel_rfl)) (fun _ _ _ h => h) (Or.inl ⟨by rfl, ?_⟩) ?_ ?_
      rotate_left
      ·intro w'
       go_simp
       with_reducible rfl
      rotate_left
      ·simp only [Act.put, qsA, qsB, qsC, i64_w, i32_w, qsD, qsE]
       rfl
      refine pure_ (i := 7) (N := some 49) (v := ?_) (a' := ?_) #[true, true, true, true, true, true, true, true, false, false, false, false, false, false, false, false, false, false, false, false, false, false, false, false, false, false, false] rfl rfl (any_of HT_.out (by kernel_rfl)) (fun _ _ _ h => h) (Or.inl ⟨by rfl, ?_⟩) ?_ ?_
      rotate_left
      ·intro w'
       go_simp
       with_reducible rfl
      rotate_left
      ·simp only [Act.put, qsA, qsB, qsC, i64_w, i32_w, qsD, qsE]
       rfl
      refine pure_ (i := 8) (N := some 50) (v := ?_) (a' := ?_) #[true, true, true, true, true, true, true, true, true, false, false, false, false, false, false, false, false, false, false, false, false, false, false, false, false, false, false] rfl rfl (any_of HT_.out (by kernel_rfl)) (fun _ _ _ h => h) (Or.inl ⟨by rfl, ?_⟩) ?_ ?_
      rotate_left
      ·intro w'
       go_simp
       with_reducible rfl
      rotate_left
      ·simp only [Act.put, qsA, qsB, qsC, i64_w, i32_w, qsD, qsE]
       rfl
      refine pure_ (i := 9) (N := some 51) (v := ?_) (a' := ?_) #[true, true, true, true, true, true, true, true, true, true, false, false, false, false, false, false, false, false, false, false, false, false, false, false, false, false, false] rfl rfl (any_of HT_.out (by kernel_rfl)) (fun _ _ _ h => h) (Or.inl ⟨by rfl, ?_⟩) ?_ ?_
      rotate_left
      ·intro w'
       go_simp
       with_reducible rfl
      rotate_left
      ·simp only [Act.put, qsA, qsB, qsC, i64_w, i32_w, qsD, qsE]
       rfl
      refine pure_ (i := 11) (N := some 53) (v := ?_) (a' := ?_) #[true, true, true, true, true, true, true, true, true, true, false, true, false, false, false, false, false, false, false, false, false, false, false, false, false, false, false] rfl rfl (any_of HT_.out (by kernel_rfl)) (fun _ _ _ h => h) (Or.inl ⟨by rfl, ?_⟩) ?_ ?_
      rotate_left
      ·intro w'
       go_simp
       with_reducible rfl
      rotate_left
      ·simp only [Act.put, qsA, qsB, qsC, i64_w, i32_w, qsD, qsE]
       rfl
      refine take_ (i := 12) (N := some 54) (v := ?_) (a' := ?_) #[true, true, true, true, true, true, true, true, true, true, false, true, true, false, false, false, false, false, false, false, false, false, false, false, false, false, false] rfl rfl (take_ofW HT_.out HW_.out (by kernel_rfl)) (fun _ _ _ h => h) (Or.inl ⟨by rfl, ?_⟩) hHeld ?_ ?_
      rotate_left
      ·intro w' s0
       go_simp
       with_reducible rfl
      rotate_left
      ·simp only [Act.put, qsA, qsB, qsC, i64_w, i32_w, qsD, qsE]
       rfl
      refine pure_ (i := 13) (N := some 55) (v := ?_) (a' := ?_) #[true, true, true, true, true, true, true, true, true, true, false, true, true, true, false, false, false, false, false, false, false, false, false, false, false, false, false] rfl rfl (any_of HT_.out (by kernel_rfl)) (fun _ _ _ h => h) (Or.inl ⟨by rfl, ?_⟩) ?_ ?_
      rotate_left
      ·intro w'
       go_simp
       with_reducible rfl
      rotate_left
      ·simp only [Act.put, qsA, qsB, qsC, i64_w, i32_w, qsD, qsE]
       rfl
      refine one_ (i := 10) (N := some 52) #[true, true, true, true, true, true, true, true, true, true, true, true, true, true, false, false, false, false, false, false, false, false, false, false, false, false, false] rfl rfl (one_of HT_.out (by kernel_rfl)) (by decide) (fun K hK => ?_)
      refine goes_ Tryd.func26 (by kernel_rfl) rfl #[.string ((t175.extract ((ji17) : Int).toNat t175.size).extract 10 12)] (by rfl) rfl rfl (by (try simp only [List.map_toArray, List.map_cons, List.map_nil]); first | done | (simp only [hji17]; rfl) | rfl | (simp only [List.length_drop, List.length_take]; rfl)) ?_
      with_reducible refine (portageref10_Number.calls kj6 ((t175.extract ((ji17) : Int).toNat t175.size).extract 10 12) t181 _ A30.out).mono ?_
      rintro e w' ⟨rfl, ⟨nd, rfl⟩⟩
      refine ⟨_, rfl, ?_⟩
      refine hK.out _ _ ((blk_cell BK173.out 0).trans rfl) (fun hHeld => ?_)
      clear hK K
      refine norm_ (a' := ?_) ?_ ?_
      rotate_left
      ·show Act.put _ (some 52) _ = _
       simp only [Act.put, qsA, qsB, qsC, i64_w, i32_w, qsD, qsE]
       rfl
      refine pure_ (i := 14) (N := some 56) (v := ?_) (a' := ?_) #[true, true, true, true, true, true, true, true, true, true, true, true, true, true, true, false, false, false, false, false, false, false, false, false, false, false, false] rfl rfl (any_of HT_.out (by kernel_rfl)) (fun _ _ _ h => h) (Or.inl ⟨by rfl, ?_⟩) ?_ ?_
      rotate_left
      ·intro w'
       go_simp
       with_reducible rfl
      rotate_left
      ·simp only [Act.put, qsA, qsB, qsC, i64_w, i32_w, qsD, qsE]
       rfl
      refine pure_ (i := 15) (N := some 57) (v := ?_) (a' := ?_) #[true, true, true, true, true, true, true, true, true, true, true, true, true, true, true, true, false, false, false, false, false, false, false, false, false, false, false] rfl rfl (any_of HT_.out (by kernel_rfl)) (fun _ _ _ h => h) (Or.inl ⟨by rfl, ?_⟩) ?_ ?_
      rotate_left
      ·intro w'
       go_simp
       with_reducible rfl
      rotate_left
      ·simp only [Act.put, qsA, qsB, qsC, i64_w, i32_w, qsD, qsE]
       rfl
      refine pure_ (i := 16) (N := some 58) (v := ?_) (a' := ?_) #[true, true, true, true, true, true, true, true, true, true, true, true, true, true, true, true, true, false, false, false, false, false, false, false, false, false, false] rfl rfl (any_of HT_.out (by kernel_rfl)) (fun _ _ _ h => h) (Or.inl ⟨by rfl, ?_⟩) ?_ ?_
      rotate_left
      ·intro w'
       go_simp
       with_reducible rfl
      rotate_left
      ·simp only [Act.put, qsA, qsB, qsC, i64_w, i32_w, qsD, qsE]
       rfl
      refine pure_ (i := 17) (N := some 59) (v := ?_) (a' := ?_) #[true, true, true, true, true, true, true, true, true, true, true, true, true, true, true, true, true, true, false, false, false, false, false, false, false, false, false] rfl rfl (any_of HT_.out (by kernel_rfl)) (fun _ _ _ h => h) (Or.inl ⟨by rfl, ?_⟩) ?_ ?_
      rotate_left
      ·intro w'
       go_simp
       with_reducible rfl
      rotate_left
      ·simp only [Act.put, qsA, qsB, qsC, i64_w, i32_w, qsD, qsE]
       rfl
      refine pure_ (i := 18) (N := some 60) (v := ?_) (a' := ?_) #[true, true, true, true, true, true, true, true, true, true, true, true, true, true, true, true, true, true, true, false, false, false, false, false, false, false, false] rfl rfl (any_of HT_.out (by kernel_rfl)) (fun _ _ _ h => h) (Or.inl ⟨by rfl, ?_⟩) ?_ ?_
      rotate_left
      ·intro w'
       go_simp
       with_reducible rfl
      rotate_left
      ·simp only [Act.put, qsA, qsB, qsC, i64_w, i32_w, qsD, qsE]
       rfl
      refine pure_ (i := 19) (N := some 61) (v := ?_) (a' := ?_) #[true, true, true, true, true, true, true, true, true, true, true, true, true, true, true, true, true, true, true, true, false, false, false, false, false, false, false] rfl rfl (any_of HT_.out (by kernel_rfl)) (fun _ _ _ h => h) (Or.inl ⟨by rfl, ?_⟩) ?_ ?_
      rotate_left
      ·intro w'
       go_simp
       with_reducible rfl
      rotate_left
      ·simp only [Act.put, qsA, qsB, qsC, i64_w, i32_w, qsD, qsE]
       rfl
      refine pure_ (i := 23) (N := some 65) (v := ?_) (a' := ?_) #[true, true, true, true, true, true, true, true, true, true, true, true, true, true, true, true, true, true, true, true, false, false, false, true, false, false, false] rfl rfl (any_of HT_.out (by kernel_rfl)) (fun _ _ _ h => h) (Or.inl ⟨by rfl, ?_⟩) ?_ ?_
      rotate_left
      ·intro w'
       go_simp
       with_reducible rfl
      rotate_left
      ·simp only [Act.put, qsA, qsB, qsC, i64_w, i32_w, qsD, qsE]
       rfl
      refine pure_ (i := 24) (N := some 66) (v := ?_) (a' := ?_) #[true, true, true, true, true, true, true, true, true, true, true, true, true, true, true, true, true, true, true, true, false, false, false, true, true, false, false] rfl rfl (any_of HT_.out (by kernel_rfl)) (fun _ _ _ h => h) (Or.inl ⟨by rfl, ?_⟩) ?_ ?_
      rotate_left
      ·intro w'
       go_simp
       with_reducible rfl
      rotate_left
      ·simp only [Act.put, qsA, qsB, qsC, i64_w, i32_w, qsD, qsE]
       rfl
      refine one_ (i := 20) (N := some 62) #[true, true, true, true, true, true, true, true, true, true, true, true, true, true, true, true, true, true, true, true, true, false, false, true, true, false, false] rfl rfl (one_of HT_.out (by kernel_rfl)) (by decide) (fun K hK => ?_)
      refine goes_ Tryd.func26 (by kernel_rfl) rfl #[.string ((t175.extract ((ji17) : Int).toNat t175.size).extract 12 16)] (by rfl) rfl rfl (by (try simp only [List.map_toArray, List.map_cons, List.map_nil]); first | done | (simp only [hji17]; rfl) | rfl | (simp only [List.length_drop, List.length_take]; rfl)) ?_
      with_reducible refine (portageref10_Number.calls kj6 ((t175.extract ((ji17) : Int).toNat t175.size).extract 12 16) t182 _ A34.out).mono ?_
      rintro e w' ⟨rfl, ⟨nd, rfl⟩⟩
      refine ⟨_, rfl, ?_⟩
      refine hK.out _ _ ((blk_cell BK173.out 0).trans rfl) (fun hHeld => ?_)
      clear hK K
      refine norm_ (a' := ?_) ?_ ?_
      rotate_left
      ·show Act.put _ (some 62) _ = _
       simp only [Act.put, qsA, qsB, qsC, i64_w, i32_w, qsD, qsE]
       rfl
      refine pure_ (i := 21) (N := some 63) (v := ?_) (a' := ?_) #[true, true, true, true, true, true, true, true, true, true, true, true, true, true, true, true, true, true, true, true, true, true, false, true, true, false, false] rfl rfl (any_of HT_.out (by kernel_rfl)) (fun _ _ _ h => h) (Or.inl ⟨by rfl, ?_⟩) ?_ ?_
      rotate_left
      ·intro w'
       go_simp
       with_reducible rfl
      rotate_left
      ·simp only [Act.put, qsA, qsB, qsC, i64_w, i32_w, qsD, qsE]
       rfl
      refine pure_ (i := 22) (N := some 64) (v := ?_) (a' := ?_) #[true, true, true, true, true, true, true, true, true, true, true, true, true, true, true, true, true, true, true, true, true, true, true, true, true, false, false] rfl rfl (any_of HT_.out (by kernel_rfl)) (fun _ _ _ h => h) (Or.inl ⟨by rfl, ?_⟩) ?_ ?_
      rotate_left
      ·intro w'
       go_simp
       with_reducible rfl
      rotate_left
      ·simp only [Act.put, qsA, qsB, qsC, i64_w, i32_w, qsD, qsE]
       rfl
      refine pure_ (i := 25) (N := some 67) (v := ?_) (a' := ?_) #[true, true, true, true, true, true, true, true, true, true, true, true, true, true, true, true, true, true, true, true, true, true, true, true, true, true, false] rfl rfl (any_of HT_.out (by kernel_rfl)) (fun _ _ _ h => h) (Or.inl ⟨by rfl, ?_⟩) ?_ ?_
      rotate_left
      ·intro w'
       go_simp
       with_reducible rfl
      rotate_left
      ·simp only [Act.put, qsA, qsB, qsC, i64_w, i32_w, qsD, qsE]
       rfl
      refine pure_ (i := 26) (N := some 68) (v := ?_) (a' := ?_) #[true, true, true, true, true, true, true, true, true, true, true, true, true, true, true, true, true, true, true, true, true, true, true, true, true, true, true] rfl rfl (any_of HT_.out (by kernel_rfl)) (fun _ _ _ h => h) (Or.inl ⟨by rfl, ?_⟩) ?_ ?_
      rotate_left
      ·intro w'
       go_simp
       with_reducible rfl
      rotate_left
      ·simp only [Act.put, qsA, qsB, qsC, i64_w, i32_w, qsD, qsE]
       rfl
      refine done_ (done_of HT_.out (by kernel_rfl)) ?_
      try go_wp2
      go_meet
      case rel => exact ⟨_, (((wrap64 ((wrap64 (t179 + t182)) + 22)) != (t175.size : Int))), (by first | rfl | (simp; done) | (simp [*]; done)), H', ⟨by have := HJ6.out; first | omega | exact Nat.le_refl _⟩, ⟨by (with_reducible repeat (first | refine qkA ?_ _ | refine qkB ?_ | refine qkC ?_ _)); exact BK173.out⟩, ⟨by repeat (first | (with_reducible first | exact HB.out | apply qbA | apply qbB | apply qbC | refine below_set ?_ GE173.out) | exact HB.out)⟩⟩
    case rest =>
     as_aux_lemma =>
      clear HC23
      try clear c2
      try clear p2
      try clear c3
      try clear p6
      try clear c24
      try clear c25
      try clear c26
      try clear c27
      try clear c27b0
      try clear c27b1
      try clear c28
      try clear c29
      try clear c31
      try clear c31b0
      try clear c31b1
      try clear c32
      try clear c33
      obtain ⟨kq, x68_22, rfl, HA, HJ22, BK173, HB⟩ := hcut
      cases kq with
      | zero => exact absurd HA.out (by simp [portagelaw13_ZipParts.j1])
      | succ kj22 =>
       have H := HA.out
       clear HA
       simp only [portagelaw13_ZipParts.j1] at H
       by_cases c38 : x68_22 = true
       ·subst c38
        have H1 : (none) = some r := by rw [if_pos rfl] at H; exact H
        clear H
        have H := H1
        clear H1
        exact absurd H (by simp)
       replace c38 := Bool.eq_false_iff.mpr c38
       subst c38
       have H1 : (portagelaw13_ZipParts.l0 kj22 t175 t179 0 t179 0 l0_0) = some r := by rw [if_neg (show ¬ (false = true) by decide)] at H; exact H
       clear H
       have H := H1
       clear H1
       have H' := qas H
       clear H
       go_wp2
       go_loopg [7, 8, 9] kj22 (fun kq v7 v8 v9 w' => ∃ (x7_3 : Int) (x8_3 : Int) (x9_3 : Int), v7 = .int .i64 x7_3 ∧ v8 = .int .i64 x8_3 ∧ v9 = .int .i64 x9_3 ∧ Aside0 (portagelaw13_ZipParts.l0 kq t175 t179 x7_3 x8_3 x9_3 l0_0 = some r) ∧ Aside0 (kq ≤ kj22) ∧ Aside0 (w'.heap[gb173]? = some (.cells #[(.slice A0_0 l0_0.length c0_0)] 24 (0, 0))) ∧ Aside0 (Below w.heap.size w w'))
       case atStart => exact ⟨(0), (t179), (0), (by first | rfl | (simp; done) | (simp [*]; done)), (by first | rfl | (simp; done) | (simp [*]; done)), (by first | rfl | (simp; done) | (simp [*]; done)), H', ⟨Nat.le_refl _⟩, ⟨by (with_reducible repeat (first | refine qkA ?_ _ | refine qkB ?_ | refine qkC ?_ _)); exact BK173.out⟩, ⟨by repeat (first | (with_reducible first | exact HB.out | apply qbA | apply qbB | apply qbC | refine below_set ?_ GE173.out) | exact HB.out)⟩⟩
       case round =>
        as_aux_lemma =>
         clear H'
         try clear c2
         try clear p2
         try clear c3
         try clear p6
         try clear c24
         try clear c25
         try clear c26
         try clear c27
         try clear c27b0
         try clear c27b1
         try clear c28
         try clear c29
         try clear c31
         try clear c31b0
         try clear c31b1
         try clear c32
         try clear c33
         try clear c38
         try clear p2
         try clear p6
         obtain ⟨x7_3, x8_3, x9_3, rfl, rfl, rfl, HA, HK3, BK173, HB⟩ := hrel
         cases gk with
         | zero => exact absurd HA.out (by simp [portagelaw13_ZipParts.l0])
         | succ k3 =>
          have H := HA.out
          clear HA
          simp only [portagelaw13_ZipParts.l0] at H
          by_cases c39 : x9_3 < (l0_0.length : Int)
          rotate_left
          ·rw [if_neg c39] at H
           have c39b0 : decide (x9_3 < (l0_0.length : Int)) = false := decide_eq_false c39
           clear c39
           by_cases c96 : x7_3 = t179
           rotate_left
           ·rw [if_neg c96] at H
            exact absurd H (by simp)
           rw [if_pos c96] at H
           have c96b0 : (x7_3 == t179) = true := beq_iff_eq.mpr c96
           have c96b1 : (x7_3 != t179) = false := bne_eq_false_iff_eq.mpr c96
           clear c96
           obtain rfl := Option.some.inj H
           have hcz97_0 : wr.cell? ⟨gb173, 0, none⟩ = some (.slice A0_0 l0_0.length c0_0) := (blk_cell BK173.out 0).trans rfl
           have hfz97_0 := blk_frozen BK173.out 0
           go_wp2
           go_ret
           exact ⟨by first | rfl | (simp [errW_none, errW_some] <;> rfl) | (simp only [← hji17]; first | rfl | (simp [errW_none, errW_some] <;> rfl)) | (simp [*, errW_none, errW_some] <;> rfl), by repeat (first | (with_reducible first | exact HB.out | apply qbA | apply qbB | apply qbC | refine below_set ?_ GE173.out) | exact HB.out)⟩
          rw [if_pos c39] at H
          have c39b0 : decide (x9_3 < (l0_0.length : Int)) = true := decide_eq_true c39
          clear c39
          by_cases c40 : 0 ≤ x9_3
          rotate_left
          ·rw [if_neg c40] at H
           exact absurd H (by simp)
          rw [if_pos c40] at H
          have c40b0 : decide (0 ≤ x9_3) = true := decide_eq_true c40
          clear c40
          have HC41 := qas H
          clear H
          have hcz42_0 : wr.cell? ⟨gb173, 0, none⟩ = some (.slice A0_0 l0_0.length c0_0) := (blk_cell BK173.out 0).trans rfl
          have hfz42_0 := blk_frozen BK173.out 0
          have p183 : 0 ≤ (x9_3 : Int) := qde (by first | (with_reducible assumption) | assumption)
          have q183 : x9_3 < (l0_0.length : Int) := qde (by first | (with_reducible assumption) | assumption)
          obtain ⟨ad183, A183_2, c183_2, e183, hx183_0, hx183_1, hx183_2, hx183_3, hx183_4, hx183_5, hx183_6, hx183_7, hx183_8, hl183_2, hi183_2⟩ := at_T39 HR0_0.out x9_3 p183 q183
          cases e183
          replace hx183_0 := (HB.out.cell (qbl w _ hx183_0)).trans hx183_0
          replace hx183_1 := (HB.out.cell (qbl w _ hx183_1)).trans hx183_1
          replace hx183_2 := (HB.out.cell (qbl w _ hx183_2)).trans hx183_2
          replace hx183_3 := (HB.out.cell (qbl w _ hx183_3)).trans hx183_3
          replace hx183_4 := (HB.out.cell (qbl w _ hx183_4)).trans hx183_4
          replace hx183_5 := (HB.out.cell (qbl w _ hx183_5)).trans hx183_5
          replace hx183_6 := (HB.out.cell (qbl w _ hx183_6)).trans hx183_6
          replace hx183_7 := (HB.out.cell (qbl w _ hx183_7)).trans hx183_7
          replace hx183_8 := (HB.out.cell (qbl w _ hx183_8)).trans hx183_8
          have HR183_2 := qas hi183_2
          have HC183_2 := qas hl183_2
          clear hi183_2 hl183_2
          replace p183 := eq_true p183
          replace q183 := eq_true q183
          go_upto_region 18 with (first | ((with_reducible refine gate_dst (N := 10) rfl ?_); (try (refine gate_guard (by rfl) ?_; dsimp only)); refine box_event ?hg (N := 10) ?hd (cs := #[.string (⟨#[]⟩ : ByteArray), .bool false, .slice none 0 0, .int .i64 0, .int .i64 0, .int .i64 0, .string (⟨#[]⟩ : ByteArray), .int .i64 0, .int .i64 0]) (t := 39) ?hr ?_; (case hd => rfl); (case hg => rfl); (case hr => first | (go_simp; done) | (go_simp; rfl)); intro gb184 hg w43 hbox hb; have n0_ := qas (blk_below (g := gb173) (o := .cells #[.slice (some ad183) l0_0.length c0_0] 24 (0, 0)) (by (with_reducible repeat (first | refine qkA ?_ _ | refine qkB ?_ | refine qkC ?_ _)); exact BK173.out) hb); have n1_ := qas (below_step (by repeat (first | (with_reducible first | exact HB.out | apply qbA | apply qbB | apply qbC | refine below_set ?_ GE173.out) | exact HB.out)) hb); have n2_ := qas (hbox); have n3_ := qas ((by rw [hg]; exact (below_size (by repeat (first | (with_reducible first | exact HB.out | apply qbA | apply qbB | apply qbC | refine below_set ?_ GE173.out) | exact HB.out))) : w.heap.size ≤ gb184)); have n4_ := qas ((by rw [hg]; exact (below_size (by repeat (first | (with_reducible first | exact HB.out | apply qbA | apply qbB | apply qbC | refine below_set ?_ GE173.out) | exact HB.out))) : w.heap.size ≤ gb184)); have n5_ := qas ((by rw [hg]; exact Nat.ne_of_lt (blk_lt (g := gb173) (o := .cells #[.slice (some ad183) l0_0.length c0_0] 24 (0, 0)) (by (with_reducible repeat (first | refine qkA ?_ _ | refine qkB ?_ | refine qkC ?_ _)); exact BK173.out)) : gb173 ≠ gb184)); have n6_ := qas ((by rw [hg]; exact Nat.ne_of_gt (blk_lt (g := gb173) (o := .cells #[.slice (some ad183) l0_0.length c0_0] 24 (0, 0)) (by (with_reducible repeat (first | refine qkA ?_ _ | refine qkB ?_ | refine qkC ?_ _)); exact BK173.out)) : gb184 ≠ gb173)); clear BK173; clear HB; have BK173 := n0_; have HB := n1_; have BK184 := n2_; have GW184 := n3_; have GE184 := n4_; have NB173_184 := n5_; have NB184_173 := n6_; clear n0_ n1_ n2_ n3_ n4_ n5_ n6_; clear hb hbox hg; have hnb44 := NB184_173.out; have hnc44 := NB173_184.out; have hcz45_0 : w43.cell? ⟨gb184, 0, none⟩ = some (.string (⟨#[]⟩ : ByteArray)) := (blk_cell BK184.out 0).trans rfl; have hcz45_1 : w43.cell? ⟨gb184, 1, none⟩ = some (.bool false) := (blk_cell BK184.out 1).trans rfl; have hcz45_2 : w43.cell? ⟨gb184, 2, none⟩ = some (.slice none 0 0) := (blk_cell BK184.out 2).trans rfl; have hcz45_3 : w43.cell? ⟨gb184, 3, none⟩ = some (.int .i64 0) := (blk_cell BK184.out 3).trans rfl; have hcz45_4 : w43.cell? ⟨gb184, 4, none⟩ = some (.int .i64 0) := (blk_cell BK184.out 4).trans rfl; have hcz45_5 : w43.cell? ⟨gb184, 5, none⟩ = some (.int .i64 0) := (blk_cell BK184.out 5).trans rfl; have hcz45_6 : w43.cell? ⟨gb184, 6, none⟩ = some (.string (⟨#[]⟩ : ByteArray)) := (blk_cell BK184.out 6).trans rfl; have hcz45_7 : w43.cell? ⟨gb184, 7, none⟩ = some (.int .i64 0) := (blk_cell BK184.out 7).trans rfl; have hcz45_8 : w43.cell? ⟨gb184, 8, none⟩ = some (.int .i64 0) := (blk_cell BK184.out 8).trans rfl; have hfz45_0 := blk_frozen BK184.out 0; have hfz45_1 := blk_frozen BK184.out 1; have hfz45_2 := blk_frozen BK184.out 2; have hfz45_3 := blk_frozen BK184.out 3; have hfz45_4 := blk_frozen BK184.out 4; have hfz45_5 := blk_frozen BK184.out 5; have hfz45_6 := blk_frozen BK184.out 6; have hfz45_7 := blk_frozen BK184.out 7; have hfz45_8 := blk_frozen BK184.out 8))
          (try simp only [Act.put, qsA, qsB, qsC])
          go_cut [108] (fun v108 wc => ∃ (kq : Nat) (x108_40 : Bool), v108 = .bool x108_40 ∧ Aside0 (portagelaw13_ZipParts.j3 kq t175 t179 x7_3 x8_3 x9_3 (wrap64 ((wrap64 (30 + (((rd_T39 l0_0 x9_3).f0).size : Int))) + 26)) x108_40 l0_0 ((rd_T39 l0_0 x9_3).f0) ((rd_T39 l0_0 x9_3).f1) ((rd_T39 l0_0 x9_3).f2) ((rd_T39 l0_0 x9_3).f3) ((rd_T39 l0_0 x9_3).f4) ((rd_T39 l0_0 x9_3).f5) ((rd_T39 l0_0 x9_3).f6) ((rd_T39 l0_0 x9_3).f7) ((rd_T39 l0_0 x9_3).f8) = some r) ∧ Aside0 (kq ≤ k3) ∧ Aside0 (wc.heap[gb173]? = some (.cells #[(.slice (some ad183) l0_0.length c0_0)] 24 (0, 0))) ∧ Aside0 (wc.heap[gb184]? = some (.cells #[.string ((rd_T39 l0_0 x9_3).f0), .bool ((rd_T39 l0_0 x9_3).f1), (.slice A183_2 ((rd_T39 l0_0 x9_3).f2).length c183_2), .int .i64 ((rd_T39 l0_0 x9_3).f3), .int .i64 ((rd_T39 l0_0 x9_3).f4), .int .i64 ((rd_T39 l0_0 x9_3).f5), .string ((rd_T39 l0_0 x9_3).f6), .int .i64 ((rd_T39 l0_0 x9_3).f7), .int .i64 ((rd_T39 l0_0 x9_3).f8)] 39 (0, 0))) ∧ Aside0 (Below w.heap.size w wc))
          case first =>
           as_aux_lemma =>
            have H := HC41.out
            clear HC41
            by_cases c46 : (wrap64 ((wrap64 (x7_3 + (wrap64 ((wrap64 (30 + (((rd_T39 l0_0 x9_3).f0).size : Int))) + 26)))) + (((rd_T39 l0_0 x9_3).f6).size : Int))) > t179
            ·rw [if_pos c46] at H
             have c46b0 : decide (t179 < (wrap64 ((wrap64 (x7_3 + (wrap64 ((wrap64 (30 + (((rd_T39 l0_0 x9_3).f0).size : Int))) + 26)))) + (((rd_T39 l0_0 x9_3).f6).size : Int)))) = true := decide_eq_true c46
             clear c46
             (first | rw [c46b0] | (simp only [i64_w, i32_w]; rw [c46b0]) | skip)
             have H' := qas H
             clear H
             have hnb47 := NB184_173.out
             have hnc47 := NB173_184.out
             have hcz48_0 : w43.cell? ⟨gb184, 0, none⟩ = some (.string (⟨#[]⟩ : ByteArray)) := (blk_cell BK184.out 0).trans rfl
             have hcz48_1 : w43.cell? ⟨gb184, 1, none⟩ = some (.bool false) := (blk_cell BK184.out 1).trans rfl
             have hcz48_2 : w43.cell? ⟨gb184, 2, none⟩ = some (.slice none 0 0) := (blk_cell BK184.out 2).trans rfl
             have hcz48_3 : w43.cell? ⟨gb184, 3, none⟩ = some (.int .i64 0) := (blk_cell BK184.out 3).trans rfl
             have hcz48_4 : w43.cell? ⟨gb184, 4, none⟩ = some (.int .i64 0) := (blk_cell BK184.out 4).trans rfl
             have hcz48_5 : w43.cell? ⟨gb184, 5, none⟩ = some (.int .i64 0) := (blk_cell BK184.out 5).trans rfl
             have hcz48_6 : w43.cell? ⟨gb184, 6, none⟩ = some (.string (⟨#[]⟩ : ByteArray)) := (blk_cell BK184.out 6).trans rfl
             have hcz48_7 : w43.cell? ⟨gb184, 7, none⟩ = some (.int .i64 0) := (blk_cell BK184.out 7).trans rfl
             have hcz48_8 : w43.cell? ⟨gb184, 8, none⟩ = some (.int .i64 0) := (blk_cell BK184.out 8).trans rfl
             have hfz48_0 := blk_frozen BK184.out 0
             have hfz48_1 := blk_frozen BK184.out 1
             have hfz48_2 := blk_frozen BK184.out 2
             have hfz48_3 := blk_frozen BK184.out 3
             have hfz48_4 := blk_frozen BK184.out 4
             have hfz48_5 := blk_frozen BK184.out 5
             have hfz48_6 := blk_frozen BK184.out 6
             have hfz48_7 := blk_frozen BK184.out 7
             have hfz48_8 := blk_frozen BK184.out 8
             go_wp2
             go_meet
             case rel => exact ⟨_, (true), (by first | rfl | (simp; done) | (simp [*]; done)), H', ⟨by have := HJ6.out; have := HJ22.out; have := HK3.out; first | omega | exact Nat.le_refl _⟩, ⟨by (with_reducible repeat (first | refine qkA ?_ _ | refine qkB ?_ | refine qkC ?_ _)); refine blk_far ?_ NB173_184.out _; (with_reducible repeat (first | refine qkA ?_ _ | refine qkB ?_ | refine qkC ?_ _)); refine blk_far ?_ NB173_184.out _; (with_reducible repeat (first | refine qkA ?_ _ | refine qkB ?_ | refine qkC ?_ _)); refine blk_far ?_ NB173_184.out _; (with_reducible repeat (first | refine qkA ?_ _ | refine qkB ?_ | refine qkC ?_ _)); refine blk_far ?_ NB173_184.out _; (with_reducible repeat (first | refine qkA ?_ _ | refine qkB ?_ | refine qkC ?_ _)); refine blk_far ?_ NB173_184.out _; (with_reducible repeat (first | refine qkA ?_ _ | refine qkB ?_ | refine qkC ?_ _)); refine blk_far ?_ NB173_184.out _; (with_reducible repeat (first | refine qkA ?_ _ | refine qkB ?_ | refine qkC ?_ _)); refine blk_far ?_ NB173_184.out _; (with_reducible repeat (first | refine qkA ?_ _ | refine qkB ?_ | refine qkC ?_ _)); refine blk_far ?_ NB173_184.out _; (with_reducible repeat (first | refine qkA ?_ _ | refine qkB ?_ | refine qkC ?_ _)); refine blk_far ?_ NB173_184.out _; (with_reducible repeat (first | refine qkA ?_ _ | refine qkB ?_ | refine qkC ?_ _)); exact BK173.out⟩, ⟨by (with_reducible repeat (first | refine qkA ?_ _ | refine qkB ?_ | refine qkC ?_ _)); refine blk_put (cs := #[.string ((rd_T39 l0_0 x9_3).f0), .bool ((rd_T39 l0_0 x9_3).f1), .slice A183_2 ((rd_T39 l0_0 x9_3).f2).length c183_2, .int .i64 ((rd_T39 l0_0 x9_3).f3), .int .i64 ((rd_T39 l0_0 x9_3).f4), .int .i64 ((rd_T39 l0_0 x9_3).f5), .string ((rd_T39 l0_0 x9_3).f6), .int .i64 ((rd_T39 l0_0 x9_3).f7), .int .i64 0]) ?_ 8 _ rfl; (with_reducible repeat (first | refine qkA ?_ _ | refine qkB ?_ | refine qkC ?_ _)); refine blk_put (cs := #[.string ((rd_T39 l0_0 x9_3).f0), .bool ((rd_T39 l0_0 x9_3).f1), .slice A183_2 ((rd_T39 l0_0 x9_3).f2).length c183_2, .int .i64 ((rd_T39 l0_0 x9_3).f3), .int .i64 ((rd_T39 l0_0 x9_3).f4), .int .i64 ((rd_T39 l0_0 x9_3).f5), .string ((rd_T39 l0_0 x9_3).f6), .int .i64 0, .int .i64 0]) ?_ 7 _ rfl; (with_reducible repeat (first | refine qkA ?_ _ | refine qkB ?_ | refine qkC ?_ _)); refine blk_put (cs := #[.string ((rd_T39 l0_0 x9_3).f0), .bool ((rd_T39 l0_0 x9_3).f1), .slice A183_2 ((rd_T39 l0_0 x9_3).f2).length c183_2, .int .i64 ((rd_T39 l0_0 x9_3).f3), .int .i64 ((rd_T39 l0_0 x9_3).f4), .int .i64 ((rd_T39 l0_0 x9_3).f5), .string (⟨#[]⟩ : ByteArray), .int .i64 0, .int .i64 0]) ?_ 6 _ rfl; (with_reducible repeat (first | refine qkA ?_ _ | refine qkB ?_ | refine qkC ?_ _)); refine blk_put (cs := #[.string ((rd_T39 l0_0 x9_3).f0), .bool ((rd_T39 l0_0 x9_3).f1), .slice A183_2 ((rd_T39 l0_0 x9_3).f2).length c183_2, .int .i64 ((rd_T39 l0_0 x9_3).f3), .int .i64 ((rd_T39 l0_0 x9_3).f4), .int .i64 0, .string (⟨#[]⟩ : ByteArray), .int .i64 0, .int .i64 0]) ?_ 5 _ rfl; (with_reducible repeat (first | refine qkA ?_ _ | refine qkB ?_ | refine qkC ?_ _)); refine blk_put (cs := #[.string ((rd_T39 l0_0 x9_3).f0), .bool ((rd_T39 l0_0 x9_3).f1), .slice A183_2 ((rd_T39 l0_0 x9_3).f2).length c183_2, .int .i64 ((rd_T39 l0_0 x9_3).f3), .int .i64 0, .int .i64 0, .string (⟨#[]⟩ : ByteArray), .int .i64 0, .int .i64 0]) ?_ 4 _ rfl; (with_reducible repeat (first | refine qkA ?_ _ | refine qkB ?_ | refine qkC ?_ _)); refine blk_put (cs := #[.string ((rd_T39 l0_0 x9_3).f0), .bool ((rd_T39 l0_0 x9_3).f1), .slice A183_2 ((rd_T39 l0_0 x9_3).f2).length c183_2, .int .i64 0, .int .i64 0, .int .i64 0, .string (⟨#[]⟩ : ByteArray), .int .i64 0, .int .i64 0]) ?_ 3 _ rfl; (with_reducible repeat (first | refine qkA ?_ _ | refine qkB ?_ | refine qkC ?_ _)); refine blk_put (cs := #[.string ((rd_T39 l0_0 x9_3).f0), .bool ((rd_T39 l0_0 x9_3).f1), .slice none 0 0, .int .i64 0, .int .i64 0, .int .i64 0, .string (⟨#[]⟩ : ByteArray), .int .i64 0, .int .i64 0]) ?_ 2 _ rfl; (with_reducible repeat (first | refine qkA ?_ _ | refine qkB ?_ | refine qkC ?_ _)); refine blk_put (cs := #[.string ((rd_T39 l0_0 x9_3).f0), .bool false, .slice none 0 0, .int .i64 0, .int .i64 0, .int .i64 0, .string (⟨#[]⟩ : ByteArray), .int .i64 0, .int .i64 0]) ?_ 1 _ rfl; (with_reducible repeat (first | refine qkA ?_ _ | refine qkB ?_ | refine qkC ?_ _)); refine blk_put (cs := #[.string (⟨#[]⟩ : ByteArray), .bool false, .slice none 0 0, .int .i64 0, .int .i64 0, .int .i64 0, .string (⟨#[]⟩ : ByteArray), .int .i64 0, .int .i64 0]) ?_ 0 _ rfl; (with_reducible repeat (first | refine qkA ?_ _ | refine qkB ?_ | refine qkC ?_ _)); exact BK184.out⟩, ⟨by repeat (first | (with_reducible first | exact HB.out | apply qbA | apply qbB | apply qbC | refine below_set ?_ GE173.out | refine below_set ?_ GE184.out) | exact HB.out)⟩⟩
            rw [if_neg c46] at H
            have c46b0 : decide (t179 < (wrap64 ((wrap64 (x7_3 + (wrap64 ((wrap64 (30 + (((rd_T39 l0_0 x9_3).f0).size : Int))) + 26)))) + (((rd_T39 l0_0 x9_3).f6).size : Int)))) = false := decide_eq_false c46
            clear c46
            (first | rw [c46b0] | (simp only [i64_w, i32_w]; rw [c46b0]) | skip)
            have H' := qas H
            clear H
            have hnb49 := NB184_173.out
            have hnc49 := NB173_184.out
            have hcz50_0 : w43.cell? ⟨gb184, 0, none⟩ = some (.string (⟨#[]⟩ : ByteArray)) := (blk_cell BK184.out 0).trans rfl
            have hcz50_1 : w43.cell? ⟨gb184, 1, none⟩ = some (.bool false) := (blk_cell BK184.out 1).trans rfl
            have hcz50_2 : w43.cell? ⟨gb184, 2, none⟩ = some (.slice none 0 0) := (blk_cell BK184.out 2).trans rfl
            have hcz50_3 : w43.cell? ⟨gb184, 3, none⟩ = some (.int .i64 0) := (blk_cell BK184.out 3).trans rfl
            have hcz50_4 : w43.cell? ⟨gb184, 4, none⟩ = some (.int .i64 0) := (blk_cell BK184.out 4).trans rfl
            have hcz50_5 : w43.cell? ⟨gb184, 5, none⟩ = some (.int .i64 0) := (blk_cell BK184.out 5).trans rfl
            have hcz50_6 : w43.cell? ⟨gb184, 6, none⟩ = some (.string (⟨#[]⟩ : ByteArray)) := (blk_cell BK184.out 6).trans rfl
            have hcz50_7 : w43.cell? ⟨gb184, 7, none⟩ = some (.int .i64 0) := (blk_cell BK184.out 7).trans rfl
            have hcz50_8 : w43.cell? ⟨gb184, 8, none⟩ = some (.int .i64 0) := (blk_cell BK184.out 8).trans rfl
            have hfz50_0 := blk_frozen BK184.out 0
            have hfz50_1 := blk_frozen BK184.out 1
            have hfz50_2 := blk_frozen BK184.out 2
            have hfz50_3 := blk_frozen BK184.out 3
            have hfz50_4 := blk_frozen BK184.out 4
            have hfz50_5 := blk_frozen BK184.out 5
            have hfz50_6 := blk_frozen BK184.out 6
            have hfz50_7 := blk_frozen BK184.out 7
            have hfz50_8 := blk_frozen BK184.out 8
            go_wp2
            go_meet
            case rel => exact ⟨_, (decide ((wrap64 ((wrap64 ((wrap64 (x8_3 + 46)) + (((rd_T39 l0_0 x9_3).f0).size : Int))) + 26)) > (wrap64 ((t175.size : Int) - 22)))), (by first | rfl | (simp; done) | (simp [*]; done)), H', ⟨by have := HJ6.out; have := HJ22.out; have := HK3.out; first | omega | exact Nat.le_refl _⟩, ⟨by (with_reducible repeat (first | refine qkA ?_ _ | refine qkB ?_ | refine qkC ?_ _)); refine blk_far ?_ NB173_184.out _; (with_reducible repeat (first | refine qkA ?_ _ | refine qkB ?_ | refine qkC ?_ _)); refine blk_far ?_ NB173_184.out _; (with_reducible repeat (first | refine qkA ?_ _ | refine qkB ?_ | refine qkC ?_ _)); refine blk_far ?_ NB173_184.out _; (with_reducible repeat (first | refine qkA ?_ _ | refine qkB ?_ | refine qkC ?_ _)); refine blk_far ?_ NB173_184.out _; (with_reducible repeat (first | refine qkA ?_ _ | refine qkB ?_ | refine qkC ?_ _)); refine blk_far ?_ NB173_184.out _; (with_reducible repeat (first | refine qkA ?_ _ | refine qkB ?_ | refine qkC ?_ _)); refine blk_far ?_ NB173_184.out _; (with_reducible repeat (first | refine qkA ?_ _ | refine qkB ?_ | refine qkC ?_ _)); refine blk_far ?_ NB173_184.out _; (with_reducible repeat (first | refine qkA ?_ _ | refine qkB ?_ | refine qkC ?_ _)); refine blk_far ?_ NB173_184.out _; (with_reducible repeat (first | refine qkA ?_ _ | refine qkB ?_ | refine qkC ?_ _)); refine blk_far ?_ NB173_184.out _; (with_reducible repeat (first | refine qkA ?_ _ | refine qkB ?_ | refine qkC ?_ _)); exact BK173.out⟩, ⟨by (with_reducible repeat (first | refine qkA ?_ _ | refine qkB ?_ | refine qkC ?_ _)); refine blk_put (cs := #[.string ((rd_T39 l0_0 x9_3).f0), .bool ((rd_T39 l0_0 x9_3).f1), .slice A183_2 ((rd_T39 l0_0 x9_3).f2).length c183_2, .int .i64 ((rd_T39 l0_0 x9_3).f3), .int .i64 ((rd_T39 l0_0 x9_3).f4), .int .i64 ((rd_T39 l0_0 x9_3).f5), .string ((rd_T39 l0_0 x9_3).f6), .int .i64 ((rd_T39 l0_0 x9_3).f7), .int .i64 0]) ?_ 8 _ rfl; (with_reducible repeat (first | refine qkA ?_ _ | refine qkB ?_ | refine qkC ?_ _)); refine blk_put (cs := #[.string ((rd_T39 l0_0 x9_3).f0), .bool ((rd_T39 l0_0 x9_3).f1), .slice A183_2 ((rd_T39 l0_0 x9_3).f2).length c183_2, .int .i64 ((rd_T39 l0_0 x9_3).f3), .int .i64 ((rd_T39 l0_0 x9_3).f4), .int .i64 ((rd_T39 l0_0 x9_3).f5), .string ((rd_T39 l0_0 x9_3).f6), .int .i64 0, .int .i64 0]) ?_ 7 _ rfl; (with_reducible repeat (first | refine qkA ?_ _ | refine qkB ?_ | refine qkC ?_ _)); refine blk_put (cs := #[.string ((rd_T39 l0_0 x9_3).f0), .bool ((rd_T39 l0_0 x9_3).f1), .slice A183_2 ((rd_T39 l0_0 x9_3).f2).length c183_2, .int .i64 ((rd_T39 l0_0 x9_3).f3), .int .i64 ((rd_T39 l0_0 x9_3).f4), .int .i64 ((rd_T39 l0_0 x9_3).f5), .string (⟨#[]⟩ : ByteArray), .int .i64 0, .int .i64 0]) ?_ 6 _ rfl; (with_reducible repeat (first | refine qkA ?_ _ | refine qkB ?_ | refine qkC ?_ _)); refine blk_put (cs := #[.string ((rd_T39 l0_0 x9_3).f0), .bool ((rd_T39 l0_0 x9_3).f1), .slice A183_2 ((rd_T39 l0_0 x9_3).f2).length c183_2, .int .i64 ((rd_T39 l0_0 x9_3).f3), .int .i64 ((rd_T39 l0_0 x9_3).f4), .int .i64 0, .string (⟨#[]⟩ : ByteArray), .int .i64 0, .int .i64 0]) ?_ 5 _ rfl; (with_reducible repeat (first | refine qkA ?_ _ | refine qkB ?_ | refine qkC ?_ _)); refine blk_put (cs := #[.string ((rd_T39 l0_0 x9_3).f0), .bool ((rd_T39 l0_0 x9_3).f1), .slice A183_2 ((rd_T39 l0_0 x9_3).f2).length c183_2, .int .i64 ((rd_T39 l0_0 x9_3).f3), .int .i64 0, .int .i64 0, .string (⟨#[]⟩ : ByteArray), .int .i64 0, .int .i64 0]) ?_ 4 _ rfl; (with_reducible repeat (first | refine qkA ?_ _ | refine qkB ?_ | refine qkC ?_ _)); refine blk_put (cs := #[.string ((rd_T39 l0_0 x9_3).f0), .bool ((rd_T39 l0_0 x9_3).f1), .slice A183_2 ((rd_T39 l0_0 x9_3).f2).length c183_2, .int .i64 0, .int .i64 0, .int .i64 0, .string (⟨#[]⟩ : ByteArray), .int .i64 0, .int .i64 0]) ?_ 3 _ rfl; (with_reducible repeat (first | refine qkA ?_ _ | refine qkB ?_ | refine qkC ?_ _)); refine blk_put (cs := #[.string ((rd_T39 l0_0 x9_3).f0), .bool ((rd_T39 l0_0 x9_3).f1), .slice none 0 0, .int .i64 0, .int .i64 0, .int .i64 0, .string (⟨#[]⟩ : ByteArray), .int .i64 0, .int .i64 0]) ?_ 2 _ rfl; (with_reducible repeat (first | refine qkA ?_ _ | refine qkB ?_ | refine qkC ?_ _)); refine blk_put (cs := #[.string ((rd_T39 l0_0 x9_3).f0), .bool false, .slice none 0 0, .int .i64 0, .int .i64 0, .int .i64 0, .string (⟨#[]⟩ : ByteArray), .int .i64 0, .int .i64 0]) ?_ 1 _ rfl; (with_reducible repeat (first | refine qkA ?_ _ | refine qkB ?_ | refine qkC ?_ _)); refine blk_put (cs := #[.string (⟨#[]⟩ : ByteArray), .bool false, .slice none 0 0, .int .i64 0, .int .i64 0, .int .i64 0, .string (⟨#[]⟩ : ByteArray), .int .i64 0, .int .i64 0]) ?_ 0 _ rfl; (with_reducible repeat (first | refine qkA ?_ _ | refine qkB ?_ | refine qkC ?_ _)); exact BK184.out⟩, ⟨by repeat (first | (with_reducible first | exact HB.out | apply qbA | apply qbB | apply qbC | refine below_set ?_ GE173.out | refine below_set ?_ GE184.out) | exact HB.out)⟩⟩
          case rest =>
           as_aux_lemma =>
            clear HC41
            try clear c1
            try clear p1
            try clear q1
            try clear hx1
            try clear c2
            try clear p2
            try clear c3
            try clear c4
            try clear p6
            try clear c18
            try clear p18
            try clear q18
            try clear hx18
            try clear c24
            try clear c25
            try clear c26
            try clear c27
            try clear c27b0
            try clear c27b1
            try clear c28
            try clear c29
            try clear c31
            try clear c31b0
            try clear c31b1
            try clear c32
            try clear c33
            try clear c38
            try clear c39
            try clear c39b0
            try clear c40
            try clear c40b0
            try clear c44
            try clear c46
            try clear c46b0
            try clear c47
            try clear c49
            try clear hcz42_0
            try clear hcz45_0
            try clear hcz45_1
            try clear hcz45_2
            try clear hcz45_3
            try clear hcz45_4
            try clear hcz45_5
            try clear hcz45_6
            try clear hcz45_7
            try clear hcz45_8
            try clear hcz48_0
            try clear hcz48_1
            try clear hcz48_2
            try clear hcz48_3
            try clear hcz48_4
            try clear hcz48_5
            try clear hcz48_6
            try clear hcz48_7
            try clear hcz48_8
            try clear hcz50_0
            try clear hcz50_1
            try clear hcz50_2
            try clear hcz50_3
            try clear hcz50_4
            try clear hcz50_5
            try clear hcz50_6
            try clear hcz50_7
            try clear hcz50_8
            try clear hfz42_0
            try clear hfz45_0
            try clear hfz45_1
            try clear hfz45_2
            try clear hfz45_3
            try clear hfz45_4
            try clear hfz45_5
            try clear hfz45_6
            try clear hfz45_7
            try clear hfz45_8
            try clear hfz48_0
            try clear hfz48_1
            try clear hfz48_2
            try clear hfz48_3
            try clear hfz48_4
            try clear hfz48_5
            try clear hfz48_6
            try clear hfz48_7
            try clear hfz48_8
            try clear hfz50_0
            try clear hfz50_1
            try clear hfz50_2
            try clear hfz50_3
            try clear hfz50_4
            try clear hfz50_5
            try clear hfz50_6
            try clear hfz50_7
            try clear hfz50_8
            try clear hx183_0
            try clear hx183_1
            try clear hx183_2
            try clear hx183_3
            try clear hx183_4
            try clear hx183_5
            try clear hx183_6
            try clear hx183_7
            try clear hx183_8
            try clear p183
            try clear p2
            try clear p6
            try clear q183
            obtain ⟨kq, x108_40, rfl, HA, HJ40, BK173, BK184, HB⟩ := hcut
            cases kq with
            | zero => exact absurd HA.out (by simp [portagelaw13_ZipParts.j3])
            | succ kj40 =>
             have H := HA.out
             clear HA
             simp only [portagelaw13_ZipParts.j3] at H
             by_cases c51 : x108_40 = true
             ·subst c51
              have H1 : (none) = some r := by rw [if_pos rfl] at H; exact H
              clear H
              have H := H1
              clear H1
              exact absurd H (by simp)
             replace c51 := Bool.eq_false_iff.mpr c51
             subst c51
             have H1 : (if 0 ≤ x7_3 then (if x7_3 ≤ (wrap64 (x7_3 + 4)) then (if (wrap64 (x7_3 + 4)) ≤ (t175.size : Int) then (if (t175.extract (x7_3 : Int).toNat ((wrap64 (x7_3 + 4)) : Int).toNat).toList = ([80, 75, 3, 4] : List UInt8) then (if 0 ≤ (wrap64 (x7_3 + 30)) then (if (wrap64 (x7_3 + 30)) ≤ (wrap64 ((wrap64 (x7_3 + 30)) + (((rd_T39 l0_0 x9_3).f0).size : Int))) then (if (wrap64 ((wrap64 (x7_3 + 30)) + (((rd_T39 l0_0 x9_3).f0).size : Int))) ≤ (t175.size : Int) then (if (t175.extract ((wrap64 (x7_3 + 30)) : Int).toNat ((wrap64 ((wrap64 (x7_3 + 30)) + (((rd_T39 l0_0 x9_3).f0).size : Int))) : Int).toNat).toList = ((rd_T39 l0_0 x9_3).f0).toList then (if 0 ≤ (wrap64 (x7_3 + (wrap64 ((wrap64 (30 + (((rd_T39 l0_0 x9_3).f0).size : Int))) + 26)))) then (if (wrap64 (x7_3 + (wrap64 ((wrap64 (30 + (((rd_T39 l0_0 x9_3).f0).size : Int))) + 26)))) ≤ (wrap64 ((wrap64 (x7_3 + (wrap64 ((wrap64 (30 + (((rd_T39 l0_0 x9_3).f0).size : Int))) + 26)))) + (((rd_T39 l0_0 x9_3).f6).size : Int))) then (if (wrap64 ((wrap64 (x7_3 + (wrap64 ((wrap64 (30 + (((rd_T39 l0_0 x9_3).f0).size : Int))) + 26)))) + (((rd_T39 l0_0 x9_3).f6).size : Int))) ≤ (t175.size : Int) then (if (t175.extract ((wrap64 (x7_3 + (wrap64 ((wrap64 (30 + (((rd_T39 l0_0 x9_3).f0).size : Int))) + 26)))) : Int).toNat ((wrap64 ((wrap64 (x7_3 + (wrap64 ((wrap64 (30 + (((rd_T39 l0_0 x9_3).f0).size : Int))) + 26)))) + (((rd_T39 l0_0 x9_3).f6).size : Int))) : Int).toNat).toList = ((rd_T39 l0_0 x9_3).f6).toList then (if 0 ≤ x8_3 then (if x8_3 ≤ (wrap64 (x8_3 + 4)) then (if (wrap64 (x8_3 + 4)) ≤ (t175.size : Int) then (if (t175.extract (x8_3 : Int).toNat ((wrap64 (x8_3 + 4)) : Int).toNat).toList = ([80, 75, 1, 2] : List UInt8) then (if 0 ≤ (wrap64 (x8_3 + 42)) then (if (wrap64 (x8_3 + 42)) ≤ (wrap64 (x8_3 + 46)) then (if (wrap64 (x8_3 + 46)) ≤ (t175.size : Int) then ((portageref10_Number.f kj40 (t175.extract ((wrap64 (x8_3 + 42)) : Int).toNat ((wrap64 (x8_3 + 46)) : Int).toNat)).bind fun t185 => (if t185 = x7_3 then (if 0 ≤ (wrap64 (x8_3 + 6)) then (if (wrap64 (x8_3 + 6)) ≤ (wrap64 (x8_3 + 32)) then (if (wrap64 (x8_3 + 32)) ≤ (t175.size : Int) then (if 0 ≤ (wrap64 (x7_3 + 4)) then (if (wrap64 (x7_3 + 4)) ≤ (wrap64 (x7_3 + 30)) then (if (wrap64 (x7_3 + 30)) ≤ (t175.size : Int) then (if (t175.extract ((wrap64 (x8_3 + 6)) : Int).toNat ((wrap64 (x8_3 + 32)) : Int).toNat).toList = (t175.extract ((wrap64 (x7_3 + 4)) : Int).toNat ((wrap64 (x7_3 + 30)) : Int).toNat).toList then (if 0 ≤ (wrap64 (x8_3 + 46)) then (if (wrap64 (x8_3 + 46)) ≤ (wrap64 ((wrap64 ((wrap64 (x8_3 + 46)) + (((rd_T39 l0_0 x9_3).f0).size : Int))) + 26)) then (if (wrap64 ((wrap64 ((wrap64 (x8_3 + 46)) + (((rd_T39 l0_0 x9_3).f0).size : Int))) + 26)) ≤ (t175.size : Int) then (if (wrap64 (x7_3 + 30)) ≤ (wrap64 (x7_3 + (wrap64 ((wrap64 (30 + (((rd_T39 l0_0 x9_3).f0).size : Int))) + 26)))) then (if (wrap64 (x7_3 + (wrap64 ((wrap64 (30 + (((rd_T39 l0_0 x9_3).f0).size : Int))) + 26)))) ≤ (t175.size : Int) then (if (t175.extract ((wrap64 (x8_3 + 46)) : Int).toNat ((wrap64 ((wrap64 ((wrap64 (x8_3 + 46)) + (((rd_T39 l0_0 x9_3).f0).size : Int))) + 26)) : Int).toNat).toList = (t175.extract ((wrap64 (x7_3 + 30)) : Int).toNat ((wrap64 (x7_3 + (wrap64 ((wrap64 (30 + (((rd_T39 l0_0 x9_3).f0).size : Int))) + 26)))) : Int).toNat).toList then (portagelaw13_ZipParts.l0 kj40 t175 t179 (wrap64 ((wrap64 (x7_3 + (wrap64 ((wrap64 (30 + (((rd_T39 l0_0 x9_3).f0).size : Int))) + 26)))) + (((rd_T39 l0_0 x9_3).f6).size : Int))) (wrap64 ((wrap64 ((wrap64 (x8_3 + 46)) + (((rd_T39 l0_0 x9_3).f0).size : Int))) + 26)) (wrap64 (x9_3 + 1)) l0_0) else (none)) else (none)) else (none)) else (none)) else (none)) else (none)) else (none)) else (none)) else (none)) else (none)) else (none)) else (none)) else (none)) else (none))) else (none)) else (none)) else (none)) else (none)) else (none)) else (none)) else (none)) else (none)) else (none)) else (none)) else (none)) else (none)) else (none)) else (none)) else (none)) else (none)) else (none)) else (none)) else (none)) = some r := by rw [if_neg (show ¬ (false = true) by decide)] at H; exact H
             clear H
             have H := H1
             clear H1
             by_cases c52 : 0 ≤ x7_3
             rotate_left
             ·rw [if_neg c52] at H
              exact absurd H (by simp)
             rw [if_pos c52] at H
             have c52b0 := eq_true c52
             have c52b1 : decide (0 ≤ x7_3) = true := decide_eq_true c52
             clear c52
             by_cases c53 : x7_3 ≤ (wrap64 (x7_3 + 4))
             rotate_left
             ·rw [if_neg c53] at H
              exact absurd H (by simp)
             rw [if_pos c53] at H
             have c53b0 := eq_true c53
             have c53b1 : decide (x7_3 ≤ (wrap64 (x7_3 + 4))) = true := decide_eq_true c53
             by_cases c54 : (wrap64 (x7_3 + 4)) ≤ (t175.size : Int)
             rotate_left
             ·rw [if_neg c54] at H
              exact absurd H (by simp)
             rw [if_pos c54] at H
             have c54b0 := eq_true c54
             have c54b1 : decide ((wrap64 (x7_3 + 4)) ≤ (t175.size : Int)) = true := decide_eq_true c54
             by_cases c55 : (t175.extract (x7_3 : Int).toNat ((wrap64 (x7_3 + 4)) : Int).toNat).toList = ([80, 75, 3, 4] : List UInt8)
             rotate_left
             ·rw [if_neg c55] at H
              have c55b0 : ((t175.extract (x7_3 : Int).toNat ((wrap64 (x7_3 + 4)) : Int).toNat).toList == ([80, 75, 3, 4] : List UInt8)) = false := beq_eq_false_iff_ne.mpr c55
              have c55b1 : ((t175.extract (x7_3 : Int).toNat ((wrap64 (x7_3 + 4)) : Int).toNat).toList != ([80, 75, 3, 4] : List UInt8)) = true := bne_iff_ne.mpr c55
              exact absurd H (by simp)
             rw [if_pos c55] at H
             have c55b0 : ((t175.extract (x7_3 : Int).toNat ((wrap64 (x7_3 + 4)) : Int).toNat).toList == ([80, 75, 3, 4] : List UInt8)) = true := beq_iff_eq.mpr c55
             have c55b1 : ((t175.extract (x7_3 : Int).toNat ((wrap64 (x7_3 + 4)) : Int).toNat).toList != ([80, 75, 3, 4] : List UInt8)) = false := bne_eq_false_iff_eq.mpr c55
             clear c55
             obtain ⟨ji56, hji56⟩ : ∃ j_ : Int, (wrap64 (x7_3 + 30)) = j_ := ⟨_, rfl⟩
             replace H : (if 0 ≤ (ji56) then (if (ji56) ≤ (wrap64 ((ji56) + (((rd_T39 l0_0 x9_3).f0).size : Int))) then (if (wrap64 ((ji56) + (((rd_T39 l0_0 x9_3).f0).size : Int))) ≤ (t175.size : Int) then (if (t175.extract ((ji56) : Int).toNat ((wrap64 ((ji56) + (((rd_T39 l0_0 x9_3).f0).size : Int))) : Int).toNat).toList = ((rd_T39 l0_0 x9_3).f0).toList then (if 0 ≤ (wrap64 (x7_3 + (wrap64 ((wrap64 (30 + (((rd_T39 l0_0 x9_3).f0).size : Int))) + 26)))) then (if (wrap64 (x7_3 + (wrap64 ((wrap64 (30 + (((rd_T39 l0_0 x9_3).f0).size : Int))) + 26)))) ≤ (wrap64 ((wrap64 (x7_3 + (wrap64 ((wrap64 (30 + (((rd_T39 l0_0 x9_3).f0).size : Int))) + 26)))) + (((rd_T39 l0_0 x9_3).f6).size : Int))) then (if (wrap64 ((wrap64 (x7_3 + (wrap64 ((wrap64 (30 + (((rd_T39 l0_0 x9_3).f0).size : Int))) + 26)))) + (((rd_T39 l0_0 x9_3).f6).size : Int))) ≤ (t175.size : Int) then (if (t175.extract ((wrap64 (x7_3 + (wrap64 ((wrap64 (30 + (((rd_T39 l0_0 x9_3).f0).size : Int))) + 26)))) : Int).toNat ((wrap64 ((wrap64 (x7_3 + (wrap64 ((wrap64 (30 + (((rd_T39 l0_0 x9_3).f0).size : Int))) + 26)))) + (((rd_T39 l0_0 x9_3).f6).size : Int))) : Int).toNat).toList = ((rd_T39 l0_0 x9_3).f6).toList then (if 0 ≤ x8_3 then (if x8_3 ≤ (wrap64 (x8_3 + 4)) then (if (wrap64 (x8_3 + 4)) ≤ (t175.size : Int) then (if (t175.extract (x8_3 : Int).toNat ((wrap64 (x8_3 + 4)) : Int).toNat).toList = ([80, 75, 1, 2] : List UInt8) then (if 0 ≤ (wrap64 (x8_3 + 42)) then (if (wrap64 (x8_3 + 42)) ≤ (wrap64 (x8_3 + 46)) then (if (wrap64 (x8_3 + 46)) ≤ (t175.size : Int) then ((portageref10_Number.f kj40 (t175.extract ((wrap64 (x8_3 + 42)) : Int).toNat ((wrap64 (x8_3 + 46)) : Int).toNat)).bind fun t185 => (if t185 = x7_3 then (if 0 ≤ (wrap64 (x8_3 + 6)) then (if (wrap64 (x8_3 + 6)) ≤ (wrap64 (x8_3 + 32)) then (if (wrap64 (x8_3 + 32)) ≤ (t175.size : Int) then (if 0 ≤ (wrap64 (x7_3 + 4)) then (if (wrap64 (x7_3 + 4)) ≤ (ji56) then (if (ji56) ≤ (t175.size : Int) then (if (t175.extract ((wrap64 (x8_3 + 6)) : Int).toNat ((wrap64 (x8_3 + 32)) : Int).toNat).toList = (t175.extract ((wrap64 (x7_3 + 4)) : Int).toNat ((ji56) : Int).toNat).toList then (if 0 ≤ (wrap64 (x8_3 + 46)) then (if (wrap64 (x8_3 + 46)) ≤ (wrap64 ((wrap64 ((wrap64 (x8_3 + 46)) + (((rd_T39 l0_0 x9_3).f0).size : Int))) + 26)) then (if (wrap64 ((wrap64 ((wrap64 (x8_3 + 46)) + (((rd_T39 l0_0 x9_3).f0).size : Int))) + 26)) ≤ (t175.size : Int) then (if (ji56) ≤ (wrap64 (x7_3 + (wrap64 ((wrap64 (30 + (((rd_T39 l0_0 x9_3).f0).size : Int))) + 26)))) then (if (wrap64 (x7_3 + (wrap64 ((wrap64 (30 + (((rd_T39 l0_0 x9_3).f0).size : Int))) + 26)))) ≤ (t175.size : Int) then (if (t175.extract ((wrap64 (x8_3 + 46)) : Int).toNat ((wrap64 ((wrap64 ((wrap64 (x8_3 + 46)) + (((rd_T39 l0_0 x9_3).f0).size : Int))) + 26)) : Int).toNat).toList = (t175.extract ((ji56) : Int).toNat ((wrap64 (x7_3 + (wrap64 ((wrap64 (30 + (((rd_T39 l0_0 x9_3).f0).size : Int))) + 26)))) : Int).toNat).toList then (portagelaw13_ZipParts.l0 kj40 t175 t179 (wrap64 ((wrap64 (x7_3 + (wrap64 ((wrap64 (30 + (((rd_T39 l0_0 x9_3).f0).size : Int))) + 26)))) + (((rd_T39 l0_0 x9_3).f6).size : Int))) (wrap64 ((wrap64 ((wrap64 (x8_3 + 46)) + (((rd_T39 l0_0 x9_3).f0).size : Int))) + 26)) (wrap64 (x9_3 + 1)) l0_0) else (none)) else (none)) else (none)) else (none)) else (none)) else (none)) else (none)) else (none)) else (none)) else (none)) else (none)) else (none)) else (none)) else (none))) else (none)) else (none)) else (none)) else (none)) else (none)) else (none)) else (none)) else (none)) else (none)) else (none)) else (none)) else (none)) else (none)) else (none)) else (none)) = some r := by first | (rw [hji56] at H; exact H) | (simp only [hji56] at H ⊢; exact H)
             have hji56w : (IntKind.i64.wrap (x7_3 + 30)) = ji56 := (i64_w _).trans hji56
             by_cases c57 : 0 ≤ (ji56)
             rotate_left
             ·rw [if_neg c57] at H
              exact absurd H (by simp)
             rw [if_pos c57] at H
             have c57b0 := eq_true c57
             have c57b1 : decide (0 ≤ (ji56)) = true := decide_eq_true c57
             clear c57
             by_cases c58 : (ji56) ≤ (wrap64 ((ji56) + (((rd_T39 l0_0 x9_3).f0).size : Int)))
             rotate_left
             ·rw [if_neg c58] at H
              exact absurd H (by simp)
             rw [if_pos c58] at H
             have c58b0 := eq_true c58
             have c58b1 : decide ((ji56) ≤ (wrap64 ((ji56) + (((rd_T39 l0_0 x9_3).f0).size : Int)))) = true := decide_eq_true c58
             by_cases c59 : (wrap64 ((ji56) + (((rd_T39 l0_0 x9_3).f0).size : Int))) ≤ (t175.size : Int)
             rotate_left
             ·rw [if_neg c59] at H
              exact absurd H (by simp)
             rw [if_pos c59] at H
             have c59b0 := eq_true c59
             have c59b1 : decide ((wrap64 ((ji56) + (((rd_T39 l0_0 x9_3).f0).size : Int))) ≤ (t175.size : Int)) = true := decide_eq_true c59
             by_cases c60 : (t175.extract ((ji56) : Int).toNat ((wrap64 ((ji56) + (((rd_T39 l0_0 x9_3).f0).size : Int))) : Int).toNat).toList = ((rd_T39 l0_0 x9_3).f0).toList
             rotate_left
             ·rw [if_neg c60] at H
              have c60b0 : ((t175.extract ((ji56) : Int).toNat ((wrap64 ((ji56) + (((rd_T39 l0_0 x9_3).f0).size : Int))) : Int).toNat).toList == ((rd_T39 l0_0 x9_3).f0).toList) = false := beq_eq_false_iff_ne.mpr c60
              have c60b1 : ((t175.extract ((ji56) : Int).toNat ((wrap64 ((ji56) + (((rd_T39 l0_0 x9_3).f0).size : Int))) : Int).toNat).toList != ((rd_T39 l0_0 x9_3).f0).toList) = true := bne_iff_ne.mpr c60
              exact absurd H (by simp)
             rw [if_pos c60] at H
             have c60b0 : ((t175.extract ((ji56) : Int).toNat ((wrap64 ((ji56) + (((rd_T39 l0_0 x9_3).f0).size : Int))) : Int).toNat).toList == ((rd_T39 l0_0 x9_3).f0).toList) = true := beq_iff_eq.mpr c60
             have c60b1 : ((t175.extract ((ji56) : Int).toNat ((wrap64 ((ji56) + (((rd_T39 l0_0 x9_3).f0).size : Int))) : Int).toNat).toList != ((rd_T39 l0_0 x9_3).f0).toList) = false := bne_eq_false_iff_eq.mpr c60
             clear c60
             obtain ⟨ji61, hji61⟩ : ∃ j_ : Int, (wrap64 (x7_3 + (wrap64 ((wrap64 (30 + (((rd_T39 l0_0 x9_3).f0).size : Int))) + 26)))) = j_ := ⟨_, rfl⟩
             replace H : (if 0 ≤ (ji61) then (if (ji61) ≤ (wrap64 ((ji61) + (((rd_T39 l0_0 x9_3).f6).size : Int))) then (if (wrap64 ((ji61) + (((rd_T39 l0_0 x9_3).f6).size : Int))) ≤ (t175.size : Int) then (if (t175.extract ((ji61) : Int).toNat ((wrap64 ((ji61) + (((rd_T39 l0_0 x9_3).f6).size : Int))) : Int).toNat).toList = ((rd_T39 l0_0 x9_3).f6).toList then (if 0 ≤ x8_3 then (if x8_3 ≤ (wrap64 (x8_3 + 4)) then (if (wrap64 (x8_3 + 4)) ≤ (t175.size : Int) then (if (t175.extract (x8_3 : Int).toNat ((wrap64 (x8_3 + 4)) : Int).toNat).toList = ([80, 75, 1, 2] : List UInt8) then (if 0 ≤ (wrap64 (x8_3 + 42)) then (if (wrap64 (x8_3 + 42)) ≤ (wrap64 (x8_3 + 46)) then (if (wrap64 (x8_3 + 46)) ≤ (t175.size : Int) then ((portageref10_Number.f kj40 (t175.extract ((wrap64 (x8_3 + 42)) : Int).toNat ((wrap64 (x8_3 + 46)) : Int).toNat)).bind fun t185 => (if t185 = x7_3 then (if 0 ≤ (wrap64 (x8_3 + 6)) then (if (wrap64 (x8_3 + 6)) ≤ (wrap64 (x8_3 + 32)) then (if (wrap64 (x8_3 + 32)) ≤ (t175.size : Int) then (if 0 ≤ (wrap64 (x7_3 + 4)) then (if (wrap64 (x7_3 + 4)) ≤ (ji56) then (if (ji56) ≤ (t175.size : Int) then (if (t175.extract ((wrap64 (x8_3 + 6)) : Int).toNat ((wrap64 (x8_3 + 32)) : Int).toNat).toList = (t175.extract ((wrap64 (x7_3 + 4)) : Int).toNat ((ji56) : Int).toNat).toList then (if 0 ≤ (wrap64 (x8_3 + 46)) then (if (wrap64 (x8_3 + 46)) ≤ (wrap64 ((wrap64 ((wrap64 (x8_3 + 46)) + (((rd_T39 l0_0 x9_3).f0).size : Int))) + 26)) then (if (wrap64 ((wrap64 ((wrap64 (x8_3 + 46)) + (((rd_T39 l0_0 x9_3).f0).size : Int))) + 26)) ≤ (t175.size : Int) then (if (ji56) ≤ (ji61) then (if (ji61) ≤ (t175.size : Int) then (if (t175.extract ((wrap64 (x8_3 + 46)) : Int).toNat ((wrap64 ((wrap64 ((wrap64 (x8_3 + 46)) + (((rd_T39 l0_0 x9_3).f0).size : Int))) + 26)) : Int).toNat).toList = (t175.extract ((ji56) : Int).toNat ((ji61) : Int).toNat).toList then (portagelaw13_ZipParts.l0 kj40 t175 t179 (wrap64 ((ji61) + (((rd_T39 l0_0 x9_3).f6).size : Int))) (wrap64 ((wrap64 ((wrap64 (x8_3 + 46)) + (((rd_T39 l0_0 x9_3).f0).size : Int))) + 26)) (wrap64 (x9_3 + 1)) l0_0) else (none)) else (none)) else (none)) else (none)) else (none)) else (none)) else (none)) else (none)) else (none)) else (none)) else (none)) else (none)) else (none)) else (none))) else (none)) else (none)) else (none)) else (none)) else (none)) else (none)) else (none)) else (none)) else (none)) else (none)) else (none)) = some r := by first | (rw [hji61] at H; exact H) | (simp only [hji61] at H ⊢; exact H)
             have hji61w : (IntKind.i64.wrap (x7_3 + (wrap64 ((wrap64 (30 + (((rd_T39 l0_0 x9_3).f0).size : Int))) + 26)))) = ji61 := (i64_w _).trans hji61
             by_cases c62 : 0 ≤ (ji61)
             rotate_left
             ·rw [if_neg c62] at H
              exact absurd H (by simp)
             rw [if_pos c62] at H
             have c62b0 := eq_true c62
             have c62b1 : decide (0 ≤ (ji61)) = true := decide_eq_true c62
             clear c62
             by_cases c63 : (ji61) ≤ (wrap64 ((ji61) + (((rd_T39 l0_0 x9_3).f6).size : Int)))
             rotate_left
             ·rw [if_neg c63] at H
              exact absurd H (by simp)
             rw [if_pos c63] at H
             have c63b0 := eq_true c63
             have c63b1 : decide ((ji61) ≤ (wrap64 ((ji61) + (((rd_T39 l0_0 x9_3).f6).size : Int)))) = true := decide_eq_true c63
             by_cases c64 : (wrap64 ((ji61) + (((rd_T39 l0_0 x9_3).f6).size : Int))) ≤ (t175.size : Int)
             rotate_left
             ·rw [if_neg c64] at H
              exact absurd H (by simp)
             rw [if_pos c64] at H
             have c64b0 := eq_true c64
             have c64b1 : decide ((wrap64 ((ji61) + (((rd_T39 l0_0 x9_3).f6).size : Int))) ≤ (t175.size : Int)) = true := decide_eq_true c64
             by_cases c65 : (t175.extract ((ji61) : Int).toNat ((wrap64 ((ji61) + (((rd_T39 l0_0 x9_3).f6).size : Int))) : Int).toNat).toList = ((rd_T39 l0_0 x9_3).f6).toList
             rotate_left
             ·rw [if_neg c65] at H
              have c65b0 : ((t175.extract ((ji61) : Int).toNat ((wrap64 ((ji61) + (((rd_T39 l0_0 x9_3).f6).size : Int))) : Int).toNat).toList == ((rd_T39 l0_0 x9_3).f6).toList) = false := beq_eq_false_iff_ne.mpr c65
              have c65b1 : ((t175.extract ((ji61) : Int).toNat ((wrap64 ((ji61) + (((rd_T39 l0_0 x9_3).f6).size : Int))) : Int).toNat).toList != ((rd_T39 l0_0 x9_3).f6).toList) = true := bne_iff_ne.mpr c65
              exact absurd H (by simp)
             rw [if_pos c65] at H
             have c65b0 : ((t175.extract ((ji61) : Int).toNat ((wrap64 ((ji61) + (((rd_T39 l0_0 x9_3).f6).size : Int))) : Int).toNat).toList == ((rd_T39 l0_0 x9_3).f6).toList) = true := beq_iff_eq.mpr c65
             have c65b1 : ((t175.extract ((ji61) : Int).toNat ((wrap64 ((ji61) + (((rd_T39 l0_0 x9_3).f6).size : Int))) : Int).toNat).toList != ((rd_T39 l0_0 x9_3).f6).toList) = false := bne_eq_false_iff_eq.mpr c65
             clear c65
             by_cases c66 : 0 ≤ x8_3
             rotate_left
             ·rw [if_neg c66] at H
              exact absurd H (by simp)
             rw [if_pos c66] at H
             have c66b0 := eq_true c66
             have c66b1 : decide (0 ≤ x8_3) = true := decide_eq_true c66
             clear c66
             by_cases c67 : x8_3 ≤ (wrap64 (x8_3 + 4))
             rotate_left
             ·rw [if_neg c67] at H
              exact absurd H (by simp)
             rw [if_pos c67] at H
             have c67b0 := eq_true c67
             have c67b1 : decide (x8_3 ≤ (wrap64 (x8_3 + 4))) = true := decide_eq_true c67
             by_cases c68 : (wrap64 (x8_3 + 4)) ≤ (t175.size : Int)
             rotate_left
             ·rw [if_neg c68] at H
              exact absurd H (by simp)
             rw [if_pos c68] at H
             have c68b0 := eq_true c68
             have c68b1 : decide ((wrap64 (x8_3 + 4)) ≤ (t175.size : Int)) = true := decide_eq_true c68
             by_cases c69 : (t175.extract (x8_3 : Int).toNat ((wrap64 (x8_3 + 4)) : Int).toNat).toList = ([80, 75, 1, 2] : List UInt8)
             rotate_left
             ·rw [if_neg c69] at H
              have c69b0 : ((t175.extract (x8_3 : Int).toNat ((wrap64 (x8_3 + 4)) : Int).toNat).toList == ([80, 75, 1, 2] : List UInt8)) = false := beq_eq_false_iff_ne.mpr c69
              have c69b1 : ((t175.extract (x8_3 : Int).toNat ((wrap64 (x8_3 + 4)) : Int).toNat).toList != ([80, 75, 1, 2] : List UInt8)) = true := bne_iff_ne.mpr c69
              exact absurd H (by simp)
             rw [if_pos c69] at H
             have c69b0 : ((t175.extract (x8_3 : Int).toNat ((wrap64 (x8_3 + 4)) : Int).toNat).toList == ([80, 75, 1, 2] : List UInt8)) = true := beq_iff_eq.mpr c69
             have c69b1 : ((t175.extract (x8_3 : Int).toNat ((wrap64 (x8_3 + 4)) : Int).toNat).toList != ([80, 75, 1, 2] : List UInt8)) = false := bne_eq_false_iff_eq.mpr c69
             clear c69
             obtain ⟨ji70, hji70⟩ : ∃ j_ : Int, (wrap64 (x8_3 + 42)) = j_ := ⟨_, rfl⟩
             replace H : (if 0 ≤ (ji70) then (if (ji70) ≤ (wrap64 (x8_3 + 46)) then (if (wrap64 (x8_3 + 46)) ≤ (t175.size : Int) then ((portageref10_Number.f kj40 (t175.extract ((ji70) : Int).toNat ((wrap64 (x8_3 + 46)) : Int).toNat)).bind fun t185 => (if t185 = x7_3 then (if 0 ≤ (wrap64 (x8_3 + 6)) then (if (wrap64 (x8_3 + 6)) ≤ (wrap64 (x8_3 + 32)) then (if (wrap64 (x8_3 + 32)) ≤ (t175.size : Int) then (if 0 ≤ (wrap64 (x7_3 + 4)) then (if (wrap64 (x7_3 + 4)) ≤ (ji56) then (if (ji56) ≤ (t175.size : Int) then (if (t175.extract ((wrap64 (x8_3 + 6)) : Int).toNat ((wrap64 (x8_3 + 32)) : Int).toNat).toList = (t175.extract ((wrap64 (x7_3 + 4)) : Int).toNat ((ji56) : Int).toNat).toList then (if 0 ≤ (wrap64 (x8_3 + 46)) then (if (wrap64 (x8_3 + 46)) ≤ (wrap64 ((wrap64 ((wrap64 (x8_3 + 46)) + (((rd_T39 l0_0 x9_3).f0).size : Int))) + 26)) then (if (wrap64 ((wrap64 ((wrap64 (x8_3 + 46)) + (((rd_T39 l0_0 x9_3).f0).size : Int))) + 26)) ≤ (t175.size : Int) then (if (ji56) ≤ (ji61) then (if (ji61) ≤ (t175.size : Int) then (if (t175.extract ((wrap64 (x8_3 + 46)) : Int).toNat ((wrap64 ((wrap64 ((wrap64 (x8_3 + 46)) + (((rd_T39 l0_0 x9_3).f0).size : Int))) + 26)) : Int).toNat).toList = (t175.extract ((ji56) : Int).toNat ((ji61) : Int).toNat).toList then (portagelaw13_ZipParts.l0 kj40 t175 t179 (wrap64 ((ji61) + (((rd_T39 l0_0 x9_3).f6).size : Int))) (wrap64 ((wrap64 ((wrap64 (x8_3 + 46)) + (((rd_T39 l0_0 x9_3).f0).size : Int))) + 26)) (wrap64 (x9_3 + 1)) l0_0) else (none)) else (none)) else (none)) else (none)) else (none)) else (none)) else (none)) else (none)) else (none)) else (none)) else (none)) else (none)) else (none)) else (none))) else (none)) else (none)) else (none)) = some r := by first | (rw [hji70] at H; exact H) | (simp only [hji70] at H ⊢; exact H)
             have hji70w : (IntKind.i64.wrap (x8_3 + 42)) = ji70 := (i64_w _).trans hji70
             by_cases c71 : 0 ≤ (ji70)
             rotate_left
             ·rw [if_neg c71] at H
              exact absurd H (by simp)
             rw [if_pos c71] at H
             have c71b0 := eq_true c71
             have c71b1 : decide (0 ≤ (ji70)) = true := decide_eq_true c71
             clear c71
             by_cases c72 : (ji70) ≤ (wrap64 (x8_3 + 46))
             rotate_left
             ·rw [if_neg c72] at H
              exact absurd H (by simp)
             rw [if_pos c72] at H
             have c72b0 := eq_true c72
             have c72b1 : decide ((ji70) ≤ (wrap64 (x8_3 + 46))) = true := decide_eq_true c72
             by_cases c73 : (wrap64 (x8_3 + 46)) ≤ (t175.size : Int)
             rotate_left
             ·rw [if_neg c73] at H
              exact absurd H (by simp)
             rw [if_pos c73] at H
             have c73b0 := eq_true c73
             have c73b1 : decide ((wrap64 (x8_3 + 46)) ≤ (t175.size : Int)) = true := decide_eq_true c73
             replace H := Option.bind_eq_some_iff.mp H
             obtain ⟨t185, A740, H⟩ := H
             replace H : (if t185 = x7_3 then (if 0 ≤ (wrap64 (x8_3 + 6)) then (if (wrap64 (x8_3 + 6)) ≤ (wrap64 (x8_3 + 32)) then (if (wrap64 (x8_3 + 32)) ≤ (t175.size : Int) then (if 0 ≤ (wrap64 (x7_3 + 4)) then (if (wrap64 (x7_3 + 4)) ≤ (ji56) then (if (ji56) ≤ (t175.size : Int) then (if (t175.extract ((wrap64 (x8_3 + 6)) : Int).toNat ((wrap64 (x8_3 + 32)) : Int).toNat).toList = (t175.extract ((wrap64 (x7_3 + 4)) : Int).toNat ((ji56) : Int).toNat).toList then (if 0 ≤ (wrap64 (x8_3 + 46)) then (if (wrap64 (x8_3 + 46)) ≤ (wrap64 ((wrap64 ((wrap64 (x8_3 + 46)) + (((rd_T39 l0_0 x9_3).f0).size : Int))) + 26)) then (if (wrap64 ((wrap64 ((wrap64 (x8_3 + 46)) + (((rd_T39 l0_0 x9_3).f0).size : Int))) + 26)) ≤ (t175.size : Int) then (if (ji56) ≤ (ji61) then (if (ji61) ≤ (t175.size : Int) then (if (t175.extract ((wrap64 (x8_3 + 46)) : Int).toNat ((wrap64 ((wrap64 ((wrap64 (x8_3 + 46)) + (((rd_T39 l0_0 x9_3).f0).size : Int))) + 26)) : Int).toNat).toList = (t175.extract ((ji56) : Int).toNat ((ji61) : Int).toNat).toList then (portagelaw13_ZipParts.l0 kj40 t175 t179 (wrap64 ((ji61) + (((rd_T39 l0_0 x9_3).f6).size : Int))) (wrap64 ((wrap64 ((wrap64 (x8_3 + 46)) + (((rd_T39 l0_0 x9_3).f0).size : Int))) + 26)) (wrap64 (x9_3 + 1)) l0_0) else (none)) else (none)) else (none)) else (none)) else (none)) else (none)) else (none)) else (none)) else (none)) else (none)) else (none)) else (none)) else (none)) else (none)) = some r := H
             have A74 := qas A740
             clear A740
             by_cases c75 : t185 = x7_3
             rotate_left
             ·rw [if_neg c75] at H
              have c75b0 : (t185 == x7_3) = false := beq_eq_false_iff_ne.mpr c75
              have c75b1 : (t185 != x7_3) = true := bne_iff_ne.mpr c75
              exact absurd H (by simp)
             rw [if_pos c75] at H
             have c75b0 : (t185 == x7_3) = true := beq_iff_eq.mpr c75
             have c75b1 : (t185 != x7_3) = false := bne_eq_false_iff_eq.mpr c75
             clear c75
             obtain ⟨ji76, hji76⟩ : ∃ j_ : Int, (wrap64 (x8_3 + 6)) = j_ := ⟨_, rfl⟩
             replace H : (if 0 ≤ (ji76) then (if (ji76) ≤ (wrap64 (x8_3 + 32)) then (if (wrap64 (x8_3 + 32)) ≤ (t175.size : Int) then (if 0 ≤ (wrap64 (x7_3 + 4)) then (if (wrap64 (x7_3 + 4)) ≤ (ji56) then (if (ji56) ≤ (t175.size : Int) then (if (t175.extract ((ji76) : Int).toNat ((wrap64 (x8_3 + 32)) : Int).toNat).toList = (t175.extract ((wrap64 (x7_3 + 4)) : Int).toNat ((ji56) : Int).toNat).toList then (if 0 ≤ (wrap64 (x8_3 + 46)) then (if (wrap64 (x8_3 + 46)) ≤ (wrap64 ((wrap64 ((wrap64 (x8_3 + 46)) + (((rd_T39 l0_0 x9_3).f0).size : Int))) + 26)) then (if (wrap64 ((wrap64 ((wrap64 (x8_3 + 46)) + (((rd_T39 l0_0 x9_3).f0).size : Int))) + 26)) ≤ (t175.size : Int) then (if (ji56) ≤ (ji61) then (if (ji61) ≤ (t175.size : Int) then (if (t175.extract ((wrap64 (x8_3 + 46)) : Int).toNat ((wrap64 ((wrap64 ((wrap64 (x8_3 + 46)) + (((rd_T39 l0_0 x9_3).f0).size : Int))) + 26)) : Int).toNat).toList = (t175.extract ((ji56) : Int).toNat ((ji61) : Int).toNat).toList then (portagelaw13_ZipParts.l0 kj40 t175 t179 (wrap64 ((ji61) + (((rd_T39 l0_0 x9_3).f6).size : Int))) (wrap64 ((wrap64 ((wrap64 (x8_3 + 46)) + (((rd_T39 l0_0 x9_3).f0).size : Int))) + 26)) (wrap64 (x9_3 + 1)) l0_0) else (none)) else (none)) else (none)) else (none)) else (none)) else (none)) else (none)) else (none)) else (none)) else (none)) else (none)) else (none)) else (none)) = some r := by first | (rw [hji76] at H; exact H) | (simp only [hji76] at H ⊢; exact H)
             (try rw [hji76] at A74)
             have hji76w : (IntKind.i64.wrap (x8_3 + 6)) = ji76 := (i64_w _).trans hji76
             by_cases c77 : 0 ≤ (ji76)
             rotate_left
             ·rw [if_neg c77] at H
              exact absurd H (by simp)
             rw [if_pos c77] at H
             have c77b0 := eq_true c77
             have c77b1 : decide (0 ≤ (ji76)) = true := decide_eq_true c77
             clear c77
             by_cases c78 : (ji76) ≤ (wrap64 (x8_3 + 32))
             rotate_left
             ·rw [if_neg c78] at H
              exact absurd H (by simp)
             rw [if_pos c78] at H
             have c78b0 := eq_true c78
             have c78b1 : decide ((ji76) ≤ (wrap64 (x8_3 + 32))) = true := decide_eq_true c78
             by_cases c79 : (wrap64 (x8_3 + 32)) ≤ (t175.size : Int)
             rotate_left
             ·rw [if_neg c79] at H
              exact absurd H (by simp)
             rw [if_pos c79] at H
             have c79b0 := eq_true c79
             have c79b1 : decide ((wrap64 (x8_3 + 32)) ≤ (t175.size : Int)) = true := decide_eq_true c79
             obtain ⟨ji80, hji80⟩ : ∃ j_ : Int, (wrap64 (x7_3 + 4)) = j_ := ⟨_, rfl⟩
             replace H : (if 0 ≤ (ji80) then (if (ji80) ≤ (ji56) then (if (ji56) ≤ (t175.size : Int) then (if (t175.extract ((ji76) : Int).toNat ((wrap64 (x8_3 + 32)) : Int).toNat).toList = (t175.extract ((ji80) : Int).toNat ((ji56) : Int).toNat).toList then (if 0 ≤ (wrap64 (x8_3 + 46)) then (if (wrap64 (x8_3 + 46)) ≤ (wrap64 ((wrap64 ((wrap64 (x8_3 + 46)) + (((rd_T39 l0_0 x9_3).f0).size : Int))) + 26)) then (if (wrap64 ((wrap64 ((wrap64 (x8_3 + 46)) + (((rd_T39 l0_0 x9_3).f0).size : Int))) + 26)) ≤ (t175.size : Int) then (if (ji56) ≤ (ji61) then (if (ji61) ≤ (t175.size : Int) then (if (t175.extract ((wrap64 (x8_3 + 46)) : Int).toNat ((wrap64 ((wrap64 ((wrap64 (x8_3 + 46)) + (((rd_T39 l0_0 x9_3).f0).size : Int))) + 26)) : Int).toNat).toList = (t175.extract ((ji56) : Int).toNat ((ji61) : Int).toNat).toList then (portagelaw13_ZipParts.l0 kj40 t175 t179 (wrap64 ((ji61) + (((rd_T39 l0_0 x9_3).f6).size : Int))) (wrap64 ((wrap64 ((wrap64 (x8_3 + 46)) + (((rd_T39 l0_0 x9_3).f0).size : Int))) + 26)) (wrap64 (x9_3 + 1)) l0_0) else (none)) else (none)) else (none)) else (none)) else (none)) else (none)) else (none)) else (none)) else (none)) else (none)) = some r := by first | (rw [hji80] at H; exact H) | (simp only [hji80] at H ⊢; exact H)
             (try rw [hji80] at c53b0)
             (try rw [hji80] at c53b1)
             (try rw [hji80] at c53)
             (try rw [hji80] at c54b0)
             (try rw [hji80] at c54b1)
             (try rw [hji80] at c54)
             (try rw [hji80] at c55b0)
             (try rw [hji80] at c55b1)
             (try rw [hji80] at A74)
             have hji80w : (IntKind.i64.wrap (x7_3 + 4)) = ji80 := (i64_w _).trans hji80
             by_cases c81 : 0 ≤ (ji80)
             rotate_left
             ·rw [if_neg c81] at H
              exact absurd H (by simp)
             rw [if_pos c81] at H
             have c81b0 := eq_true c81
             have c81b1 : decide (0 ≤ (ji80)) = true := decide_eq_true c81
             clear c81
             by_cases c82 : (ji80) ≤ (ji56)
             rotate_left
             ·rw [if_neg c82] at H
              exact absurd H (by simp)
             rw [if_pos c82] at H
             have c82b0 := eq_true c82
             have c82b1 : decide ((ji80) ≤ (ji56)) = true := decide_eq_true c82
             clear c82
             by_cases c83 : (ji56) ≤ (t175.size : Int)
             rotate_left
             ·rw [if_neg c83] at H
              exact absurd H (by simp)
             rw [if_pos c83] at H
             have c83b0 := eq_true c83
             have c83b1 : decide ((ji56) ≤ (t175.size : Int)) = true := decide_eq_true c83
             clear c83
             by_cases c84 : (t175.extract ((ji76) : Int).toNat ((wrap64 (x8_3 + 32)) : Int).toNat).toList = (t175.extract ((ji80) : Int).toNat ((ji56) : Int).toNat).toList
             rotate_left
             ·rw [if_neg c84] at H
              have c84b0 : ((t175.extract ((ji76) : Int).toNat ((wrap64 (x8_3 + 32)) : Int).toNat).toList == (t175.extract ((ji80) : Int).toNat ((ji56) : Int).toNat).toList) = false := beq_eq_false_iff_ne.mpr c84
              have c84b1 : ((t175.extract ((ji76) : Int).toNat ((wrap64 (x8_3 + 32)) : Int).toNat).toList != (t175.extract ((ji80) : Int).toNat ((ji56) : Int).toNat).toList) = true := bne_iff_ne.mpr c84
              exact absurd H (by simp)
             rw [if_pos c84] at H
             have c84b0 : ((t175.extract ((ji76) : Int).toNat ((wrap64 (x8_3 + 32)) : Int).toNat).toList == (t175.extract ((ji80) : Int).toNat ((ji56) : Int).toNat).toList) = true := beq_iff_eq.mpr c84
             have c84b1 : ((t175.extract ((ji76) : Int).toNat ((wrap64 (x8_3 + 32)) : Int).toNat).toList != (t175.extract ((ji80) : Int).toNat ((ji56) : Int).toNat).toList) = false := bne_eq_false_iff_eq.mpr c84
             clear c84
             obtain ⟨ji85, hji85⟩ : ∃ j_ : Int, (wrap64 (x8_3 + 46)) = j_ := ⟨_, rfl⟩
             replace H : (if 0 ≤ (ji85) then (if (ji85) ≤ (wrap64 ((wrap64 ((ji85) + (((rd_T39 l0_0 x9_3).f0).size : Int))) + 26)) then (if (wrap64 ((wrap64 ((ji85) + (((rd_T39 l0_0 x9_3).f0).size : Int))) + 26)) ≤ (t175.size : Int) then (if (ji56) ≤ (ji61) then (if (ji61) ≤ (t175.size : Int) then (if (t175.extract ((ji85) : Int).toNat ((wrap64 ((wrap64 ((ji85) + (((rd_T39 l0_0 x9_3).f0).size : Int))) + 26)) : Int).toNat).toList = (t175.extract ((ji56) : Int).toNat ((ji61) : Int).toNat).toList then (portagelaw13_ZipParts.l0 kj40 t175 t179 (wrap64 ((ji61) + (((rd_T39 l0_0 x9_3).f6).size : Int))) (wrap64 ((wrap64 ((ji85) + (((rd_T39 l0_0 x9_3).f0).size : Int))) + 26)) (wrap64 (x9_3 + 1)) l0_0) else (none)) else (none)) else (none)) else (none)) else (none)) else (none)) = some r := by first | (rw [hji85] at H; exact H) | (simp only [hji85] at H ⊢; exact H)
             (try rw [hji85] at c72b0)
             (try rw [hji85] at c72b1)
             (try rw [hji85] at c72)
             (try rw [hji85] at c73b0)
             (try rw [hji85] at c73b1)
             (try rw [hji85] at c73)
             (try rw [hji85] at A74)
             have hji85w : (IntKind.i64.wrap (x8_3 + 46)) = ji85 := (i64_w _).trans hji85
             by_cases c86 : 0 ≤ (ji85)
             rotate_left
             ·rw [if_neg c86] at H
              exact absurd H (by simp)
             rw [if_pos c86] at H
             have c86b0 := eq_true c86
             have c86b1 : decide (0 ≤ (ji85)) = true := decide_eq_true c86
             clear c86
             by_cases c87 : (ji85) ≤ (wrap64 ((wrap64 ((ji85) + (((rd_T39 l0_0 x9_3).f0).size : Int))) + 26))
             rotate_left
             ·rw [if_neg c87] at H
              exact absurd H (by simp)
             rw [if_pos c87] at H
             have c87b0 := eq_true c87
             have c87b1 : decide ((ji85) ≤ (wrap64 ((wrap64 ((ji85) + (((rd_T39 l0_0 x9_3).f0).size : Int))) + 26))) = true := decide_eq_true c87
             by_cases c88 : (wrap64 ((wrap64 ((ji85) + (((rd_T39 l0_0 x9_3).f0).size : Int))) + 26)) ≤ (t175.size : Int)
             rotate_left
             ·rw [if_neg c88] at H
              exact absurd H (by simp)
             rw [if_pos c88] at H
             have c88b0 := eq_true c88
             have c88b1 : decide ((wrap64 ((wrap64 ((ji85) + (((rd_T39 l0_0 x9_3).f0).size : Int))) + 26)) ≤ (t175.size : Int)) = true := decide_eq_true c88
             have c89b0 := eq_true (qde (by first | (with_reducible assumption) | assumption) : 0 ≤ (ji56))
             by_cases c90 : (ji56) ≤ (ji61)
             rotate_left
             ·rw [if_neg c90] at H
              exact absurd H (by simp)
             rw [if_pos c90] at H
             have c90b0 := eq_true c90
             have c90b1 : decide ((ji56) ≤ (ji61)) = true := decide_eq_true c90
             clear c90
             by_cases c91 : (ji61) ≤ (t175.size : Int)
             rotate_left
             ·rw [if_neg c91] at H
              exact absurd H (by simp)
             rw [if_pos c91] at H
             have c91b0 := eq_true c91
             have c91b1 : decide ((ji61) ≤ (t175.size : Int)) = true := decide_eq_true c91
             clear c91
             by_cases c92 : (t175.extract ((ji85) : Int).toNat ((wrap64 ((wrap64 ((ji85) + (((rd_T39 l0_0 x9_3).f0).size : Int))) + 26)) : Int).toNat).toList = (t175.extract ((ji56) : Int).toNat ((ji61) : Int).toNat).toList
             rotate_left
             ·rw [if_neg c92] at H
              exact absurd H (by simp)
             rw [if_pos c92] at H
             have c92b0 : ((t175.extract ((ji85) : Int).toNat ((wrap64 ((wrap64 ((ji85) + (((rd_T39 l0_0 x9_3).f0).size : Int))) + 26)) : Int).toNat).toList == (t175.extract ((ji56) : Int).toNat ((ji61) : Int).toNat).toList) = true := beq_iff_eq.mpr c92
             have c92b1 : ((t175.extract ((ji85) : Int).toNat ((wrap64 ((wrap64 ((ji85) + (((rd_T39 l0_0 x9_3).f0).size : Int))) + 26)) : Int).toNat).toList != (t175.extract ((ji56) : Int).toNat ((ji61) : Int).toNat).toList) = false := bne_eq_false_iff_eq.mpr c92
             clear c92
             have H' := qas H
             clear H
             try go_wp2
             (try (rw [drewN_self wc]; generalize hq_ : World.drewN wc _ = wc; have n0_ : Aside0 (wc.heap[gb173]? = some (.cells #[.slice (some ad183) l0_0.length c0_0] 24 (0, 0))) := ⟨by rw [← hq_]; exact (by (with_reducible repeat (first | refine qkA ?_ _ | refine qkB ?_ | refine qkC ?_ _)); exact BK173.out)⟩; have n1_ : Aside0 (wc.heap[gb184]? = some (.cells #[.string ((rd_T39 l0_0 x9_3).f0), .bool ((rd_T39 l0_0 x9_3).f1), .slice A183_2 ((rd_T39 l0_0 x9_3).f2).length c183_2, .int .i64 ((rd_T39 l0_0 x9_3).f3), .int .i64 ((rd_T39 l0_0 x9_3).f4), .int .i64 ((rd_T39 l0_0 x9_3).f5), .string ((rd_T39 l0_0 x9_3).f6), .int .i64 ((rd_T39 l0_0 x9_3).f7), .int .i64 ((rd_T39 l0_0 x9_3).f8)] 39 (0, 0))) := ⟨by rw [← hq_]; exact (by (with_reducible repeat (first | refine qkA ?_ _ | refine qkB ?_ | refine qkC ?_ _)); exact BK184.out)⟩; have n2_ : Aside0 (Below w.heap.size w wc) := ⟨by rw [← hq_]; exact (by repeat (first | (with_reducible first | exact HB.out | apply qbA | apply qbB | apply qbC | refine below_set ?_ GE173.out | refine below_set ?_ GE184.out) | exact HB.out))⟩; clear BK173 BK184 HB hq_; have BK173 := n0_; have BK184 := n1_; have HB := n2_; clear n0_ n1_ n2_))
             have n0_ := qas (qkB BK173.out)
             have n1_ := qas (qkB BK184.out)
             have n2_ := qas (qbC HB.out)
             clear BK173
             clear BK184
             clear HB
             have BK173 := n0_
             have BK184 := n1_
             have HB := n2_
             clear n0_ n1_ n2_
             refine start_ (n := 93) (S := fun w' => w'.cell? ⟨gb184, 0, none⟩ = some (.string ((rd_T39 l0_0 x9_3).f0)) ∧ w'.cell? ⟨gb184, 1, none⟩ = some (.bool ((rd_T39 l0_0 x9_3).f1)) ∧ w'.cell? ⟨gb184, 2, none⟩ = some (.slice A183_2 ((rd_T39 l0_0 x9_3).f2).length c183_2) ∧ w'.cell? ⟨gb184, 3, none⟩ = some (.int .i64 ((rd_T39 l0_0 x9_3).f3)) ∧ w'.cell? ⟨gb184, 4, none⟩ = some (.int .i64 ((rd_T39 l0_0 x9_3).f4)) ∧ w'.cell? ⟨gb184, 5, none⟩ = some (.int .i64 ((rd_T39 l0_0 x9_3).f5)) ∧ w'.cell? ⟨gb184, 6, none⟩ = some (.string ((rd_T39 l0_0 x9_3).f6)) ∧ w'.cell? ⟨gb184, 7, none⟩ = some (.int .i64 ((rd_T39 l0_0 x9_3).f7)) ∧ w'.cell? ⟨gb184, 8, none⟩ = some (.int .i64 ((rd_T39 l0_0 x9_3).f8))) (ds := []) #[false, false, false, false, false, false, false, false, false, false, false, false, false, false, false, false, false, false, false, false, false, false, false, false, false, false, false, false, false, false, false, false, false, false, false, false, false, false, false, false, false, false, false, false, false, false, false, false, false, false, false, false, false, false, false, false, false, false, false, false, false, false, false, false, false, false, false, false, false, false, false, false, false, false, false, false, false, false, false, false, false, false, false, false, false, false, false, false, false, false, false, false, false] (by kernel_rfl) rfl rfl ⟨(blk_cell BK184.out 0).trans rfl, (blk_cell BK184.out 1).trans rfl, (blk_cell BK184.out 2).trans rfl, (blk_cell BK184.out 3).trans rfl, (blk_cell BK184.out 4).trans rfl, (blk_cell BK184.out 5).trans rfl, (blk_cell BK184.out 6).trans rfl, (blk_cell BK184.out 7).trans rfl, (blk_cell BK184.out 8).trans rfl⟩ (fun hHeld => ?_); refine with_tabW portagelaw13_ZipParts.tab20 portagelaw13_ZipParts.bits20 (fun HT_ HW_ => ?_)
             generalize wc.drew = w93 at BK173 BK184 HB hHeld ⊢
             refine pure_ (i := 0) (N := some 109) (v := ?_) (a' := ?_) #[true, false, false, false, false, false, false, false, false, false, false, false, false, false, false, false, false, false, false, false, false, false, false, false, false, false, false, false, false, false, false, false, false, false, false, false, false, false, false, false, false, false, false, false, false, false, false, false, false, false, false, false, false, false, false, false, false, false, false, false, false, false, false, false, false, false, false, false, false, false, false, false, false, false, false, false, false, false, false, false, false, false, false, false, false, false, false, false, false, false, false, false, false] rfl rfl (any_of HT_.out (by kernel_rfl)) (fun _ _ _ h => h) (Or.inl ⟨by rfl, ?_⟩) ?_ ?_
             rotate_left
             ·intro w'
              go_simp
              with_reducible rfl
             rotate_left
             ·simp only [Act.put, qsA, qsB, qsC, i64_w, i32_w, qsD, qsE]
              rfl
             refine pure_ (i := 1) (N := some 110) (v := ?_) (a' := ?_) #[true, true, false, false, false, false, false, false, false, false, false, false, false, false, false, false, false, false, false, false, false, false, false, false, false, false, false, false, false, false, false, false, false, false, false, false, false, false, false, false, false, false, false, false, false, false, false, false, false, false, false, false, false, false, false, false, false, false, false, false, false, false, false, false, false, false, false, false, false, false, false, false, false, false, false, false, false, false, false, false, false, false, false, false, false, false, false, false, false, false, false, false, false] rfl rfl (any_of HT_.out (by kernel_rfl)) (fun _ _ _ h => h) (Or.inl ⟨by rfl, ?_⟩) ?_ ?_
             rotate_left
             ·intro w'
              go_simp
              with_reducible rfl
             rotate_left
             ·simp only [Act.put, qsA, qsB, qsC, i64_w, i32_w, qsD, qsE]
              rfl
             refine pure_ (i := 2) (N := some 111) (v := ?_) (a' := ?_) #[true, true, true, false, false, false, false, false, false, false, false, false, false, false, false, false, false, false, false, false, false, false, false, false, false, false, false, false, false, false, false, false, false, false, false, false, false, false, false, false, false, false, false, false, false, false, false, false, false, false, false, false, false, false, false, false, false, false, false, false, false, false, false, false, false, false, false, false, false, false, false, false, false, false, false, false, false, false, false, false, false, false, false, false, false, false, false, false, false, false, false, false, false] rfl rfl (any_of HT_.out (by kernel_rfl)) (fun _ _ _ h => h) (Or.inl ⟨by rfl, ?_⟩) ?_ ?_
             rotate_left
             ·intro w'
              go_simp
              with_reducible rfl
             rotate_left
             ·simp only [Act.put, qsA, qsB, qsC, i64_w, i32_w, qsD, qsE]
              rfl
             refine pure_ (i := 3) (N := some 112) (v := ?_) (a' := ?_) #[true, true, true, true, false, false, false, false, false, false, false, false, false, false, false, false, false, false, false, false, false, false, false, false, false, false, false, false, false, false, false, false, false, false, false, false, false, false, false, false, false, false, false, false, false, false, false, false, false, false, false, false, false, false, false, false, false, false, false, false, false, false, false, false, false, false, false, false, false, false, false, false, false, false, false, false, false, false, false, false, false, false, false, false, false, false, false, false, false, false, false, false, false] rfl rfl (any_of HT_.out (by kernel_rfl)) (fun _ _ _ h => h) (Or.inl ⟨by rfl, ?_⟩) ?_ ?_
             rotate_left
             ·intro w'
              go_simp
              with_reducible rfl
             rotate_left
             ·simp only [Act.put, qsA, qsB, qsC, i64_w, i32_w, qsD, qsE]
              rfl
             refine pure_ (i := 4) (N := some 113) (v := ?_) (a' := ?_) #[true, true, true, true, true, false, false, false, false, false, false, false, false, false, false, false, false, false, false, false, false, false, false, false, false, false, false, false, false, false, false, false, false, false, false, false, false, false, false, false, false, false, false, false, false, false, false, false, false, false, false, false, false, false, false, false, false, false, false, false, false, false, false, false, false, false, false, false, false, false, false, false, false, false, false, false, false, false, false, false, false, false, false, false, false, false, false, false, false, false, false, false, false] rfl rfl (any_of HT_.out (by kernel_rfl)) (fun _ _ _ h => h) (Or.inl ⟨by rfl, ?_⟩) ?_ ?_
             rotate_left
             ·intro w'
              go_simp
              with_reducible rfl
             rotate_left
             ·simp only [Act.put, qsA, qsB, qsC, i64_w, i32_w, qsD, qsE]
              rfl
             refine pure_ (i := 5) (N := some 114) (v := ?_) (a' := ?_) #[true, true, true, true, true, true, false, false, false, false, false, false, false, false, false, false, false, false, false, false, false, false, false, false, false, false, false, false, false, false, false, false, false, false, false, false, false, false, false, false, false, false, false, false, false, false, false, false, false, false, false, false, false, false, false, false, false, false, false, false, false, false, false, false, false, false, false, false, false, false, false, false, false, false, false, false, false, false, false, false, false, false, false, false, false, false, false, false, false, false, false, false, false] rfl rfl (any_of HT_.out (by kernel_rfl)) (fun _ _ _ h => h) (Or.inl ⟨by rfl, ?_⟩) ?_ ?_
             rotate_left
             ·intro w'
              go_simp
              with_reducible rfl
             rotate_left
             ·simp only [Act.put, qsA, qsB, qsC, i64_w, i32_w, qsD, qsE]
              rfl
             refine pure_ (i := 6) (N := some 115) (v := ?_) (a' := ?_) #[true, true, true, true, true, true, true, false, false, false, false, false, false, false, false, false, false, false, false, false, false, false, false, false, false, false, false, false, false, false, false, false, false, false, false, false, false, false, false, false, false, false, false, false, false, false, false, false, false, false, false, false, false, false, false, false, false, false, false, false, false, false, false, false, false, false, false, false, false, false, false, false, false, false, false, false, false, false, false, false, false, false, false, false, false, false, false, false, false, false, false, false, false] rfl rfl (any_of HT_.out (by kernel_rfl)) (fun _ _ _ h => h) (Or.inl ⟨by rfl, ?_⟩) ?_ ?_
             rotate_left
             ·intro w'
              go_simp
              with_reducible rfl
             rotate_left
             ·simp only [Act.put, qsA, qsB, qsC, i64_w, i32_w, qsD, qsE]
              rfl
             refine pure_ (i := 7) (N := some 116) (v := ?_) (a' := ?_) #[true, true, true, true, true, true, true, true, false, false, false, false, false, false, false, false, false, false, false, false, false, false, false, false, false, false, false, false, false, false, false, false, false, false, false, false, false, false, false, false, false, false, false, false, false, false, false, false, false, false, false, false, false, false, false, false, false, false, false, false, false, false, false, false, false, false, false, false, false, false, false, false, false, false, false, false, false, false, false, false, false, false, false, false, false, false, false, false, false, false, false, false, false] rfl rfl (any_of HT_.out (by kernel_rfl)) (fun _ _ _ h => h) (Or.inl ⟨by rfl, ?_⟩) ?_ ?_
             rotate_left
             ·intro w'
              go_simp
              with_reducible rfl
             rotate_left
             ·simp only [Act.put, qsA, qsB, qsC, i64_w, i32_w, qsD, qsE]
              rfl
             refine pure_ (i := 8) (N := some 117) (v := ?_) (a' := ?_) #[true, true, true, true, true, true, true, true, true, false, false, false, false, false, false, false, false, false, false, false, false, false, false, false, false, false, false, false, false, false, false, false, false, false, false, false, false, false, false, false, false, false, false, false, false, false, false, false, false, false, false, false, false, false, false, false, false, false, false, false, false, false, false, false, false, false, false, false, false, false, false, false, false, false, false, false, false, false, false, false, false, false, false, false, false, false, false, false, false, false, false, false, false] rfl rfl (any_of HT_.out (by kernel_rfl)) (fun _ _ _ h => h) (Or.inl ⟨by rfl, ?_⟩) ?_ ?_
             rotate_left
             ·intro w'
              go_simp
              with_reducible rfl
             rotate_left
             ·simp only [Act.put, qsA, qsB, qsC, i64_w, i32_w, qsD, qsE]
              rfl
             refine pure_ (i := 9) (N := some 118) (v := ?_) (a' := ?_) #[true, true, true, true, true, true, true, true, true, true, false, false, false, false, false, false, false, false, false, false, false, false, false, false, false, false, false, false, false, false, false, false, false, false, false, false, false, false, false, false, false, false, false, false, false, false, false, false, false, false, false, false, false, false, false, false, false, false, false, false, false, false, false, false, false, false, false, false, false, false, false, false, false, false, false, false, false, false, false, false, false, false, false, false, false, false, false, false, false, false, false, false, false] rfl rfl (any_of HT_.out (by kernel_rfl)) (fun _ _ _ h => h) (Or.inl ⟨by rfl, ?_⟩) ?_ ?_
             rotate_left
             ·intro w'
              go_simp
              with_reducible rfl
             rotate_left
             ·simp only [Act.put, qsA, qsB, qsC, i64_w, i32_w, qsD, qsE]
              rfl
             refine pure_ (i := 10) (N := some 119) (v := ?_) (a' := ?_) #[true, true, true, true, true, true, true, true, true, true, true, false, false, false, false, false, false, false, false, false, false, false, false, false, false, false, false, false, false, false, false, false, false, false, false, false, false, false, false, false, false, false, false, false, false, false, false, false, false, false, false, false, false, false, false, false, false, false, false, false, false, false, false, false, false, false, false, false, false, false, false, false, false, false, false, false, false, false, false, false, false, false, false, false, false, false, false, false, false, false, false, false, false] rfl rfl (any_of HT_.out (by kernel_rfl)) (fun _ _ _ h => h) (Or.inl ⟨by rfl, ?_⟩) ?_ ?_
             rotate_left
             ·intro w'
              go_simp
              with_reducible rfl
             rotate_left
             ·simp only [Act.put, qsA, qsB, qsC, i64_w, i32_w, qsD, qsE]
              rfl
             refine pure_ (i := 11) (N := some 120) (v := ?_) (a' := ?_) #[true, true, true, true, true, true, true, true, true, true, true, true, false, false, false, false, false, false, false, false, false, false, false, false, false, false, false, false, false, false, false, false, false, false, false, false, false, false, false, false, false, false, false, false, false, false, false, false, false, false, false, false, false, false, false, false, false, false, false, false, false, false, false, false, false, false, false, false, false, false, false, false, false, false, false, false, false, false, false, false, false, false, false, false, false, false, false, false, false, false, false, false, false] rfl rfl (any_of HT_.out (by kernel_rfl)) (fun _ _ _ h => h) (Or.inl ⟨by rfl, ?_⟩) ?_ ?_
             rotate_left
             ·intro w'
              go_simp
              with_reducible rfl
             rotate_left
             ·simp only [Act.put, qsA, qsB, qsC, i64_w, i32_w, qsD, qsE]
              rfl
             refine pure_ (i := 12) (N := some 121) (v := ?_) (a' := ?_) #[true, true, true, true, true, true, true, true, true, true, true, true, true, false, false, false, false, false, false, false, false, false, false, false, false, false, false, false, false, false, false, false, false, false, false, false, false, false, false, false, false, false, false, false, false, false, false, false, false, false, false, false, false, false, false, false, false, false, false, false, false, false, false, false, false, false, false, false, false, false, false, false, false, false, false, false, false, false, false, false, false, false, false, false, false, false, false, false, false, false, false, false, false] rfl rfl (any_of HT_.out (by kernel_rfl)) (fun _ _ _ h => h) (Or.inl ⟨by rfl, ?_⟩) ?_ ?_
             rotate_left
             ·intro w'
              go_simp
              with_reducible rfl
             rotate_left
             ·simp only [Act.put, qsA, qsB, qsC, i64_w, i32_w, qsD, qsE]
              rfl
             refine pure_ (i := 17) (N := some 126) (v := ?_) (a' := ?_) #[true, true, true, true, true, true, true, true, true, true, true, true, true, false, false, false, false, true, false, false, false, false, false, false, false, false, false, false, false, false, false, false, false, false, false, false, false, false, false, false, false, false, false, false, false, false, false, false, false, false, false, false, false, false, false, false, false, false, false, false, false, false, false, false, false, false, false, false, false, false, false, false, false, false, false, false, false, false, false, false, false, false, false, false, false, false, false, false, false, false, false, false, false] rfl rfl (any_of HT_.out (by kernel_rfl)) (fun _ _ _ h => h) (Or.inl ⟨by rfl, ?_⟩) ?_ ?_
             rotate_left
             ·intro w'
              go_simp
              with_reducible rfl
             rotate_left
             ·simp only [Act.put, qsA, qsB, qsC, i64_w, i32_w, qsD, qsE]
              rfl
             refine take_ (i := 13) (N := some 122) (v := ?_) (a' := ?_) #[true, true, true, true, true, true, true, true, true, true, true, true, true, true, false, false, false, true, false, false, false, false, false, false, false, false, false, false, false, false, false, false, false, false, false, false, false, false, false, false, false, false, false, false, false, false, false, false, false, false, false, false, false, false, false, false, false, false, false, false, false, false, false, false, false, false, false, false, false, false, false, false, false, false, false, false, false, false, false, false, false, false, false, false, false, false, false, false, false, false, false, false, false] rfl rfl (take_ofW HT_.out HW_.out (by kernel_rfl)) (fun _ _ _ h => h) (Or.inl ⟨by rfl, ?_⟩) hHeld ?_ ?_
             rotate_left
             ·rintro w' ⟨s0, s1, s2, s3, s4, s5, s6, s7, s8⟩
              go_simp
              with_reducible rfl
             rotate_left
             ·simp only [Act.put, qsA, qsB, qsC, i64_w, i32_w, qsD, qsE]
              rfl
             refine pure_ (i := 14) (N := some 123) (v := ?_) (a' := ?_) #[true, true, true, true, true, true, true, true, true, true, true, true, true, true, true, false, false, true, false, false, false, false, false, false, false, false, false, false, false, false, false, false, false, false, false, false, false, false, false, false, false, false, false, false, false, false, false, false, false, false, false, false, false, false, false, false, false, false, false, false, false, false, false, false, false, false, false, false, false, false, false, false, false, false, false, false, false, false, false, false, false, false, false, false, false, false, false, false, false, false, false, false, false] rfl rfl (any_of HT_.out (by kernel_rfl)) (fun _ _ _ h => h) (Or.inl ⟨by rfl, ?_⟩) ?_ ?_
             rotate_left
             ·intro w'
              go_simp
              with_reducible rfl
             rotate_left
             ·simp only [Act.put, qsA, qsB, qsC, i64_w, i32_w, qsD, qsE]
              rfl
             refine pure_ (i := 15) (N := some 124) (v := ?_) (a' := ?_) #[true, true, true, true, true, true, true, true, true, true, true, true, true, true, true, true, false, true, false, false, false, false, false, false, false, false, false, false, false, false, false, false, false, false, false, false, false, false, false, false, false, false, false, false, false, false, false, false, false, false, false, false, false, false, false, false, false, false, false, false, false, false, false, false, false, false, false, false, false, false, false, false, false, false, false, false, false, false, false, false, false, false, false, false, false, false, false, false, false, false, false, false, false] rfl rfl (any_of HT_.out (by kernel_rfl)) (fun _ _ _ h => h) (Or.inl ⟨by rfl, ?_⟩) ?_ ?_
             rotate_left
             ·intro w'
              go_simp
              with_reducible rfl
             rotate_left
             ·simp only [Act.put, qsA, qsB, qsC, i64_w, i32_w, qsD, qsE]
              rfl
             refine pure_ (i := 16) (N := some 125) (v := ?_) (a' := ?_) #[true, true, true, true, true, true, true, true, true, true, true, true, true, true, true, true, true, true, false, false, false, false, false, false, false, false, false, false, false, false, false, false, false, false, false, false, false, false, false, false, false, false, false, false, false, false, false, false, false, false, false, false, false, false, false, false, false, false, false, false, false, false, false, false, false, false, false, false, false, false, false, false, false, false, false, false, false, false, false, false, false, false, false, false, false, false, false, false, false, false, false, false, false] rfl rfl (any_of HT_.out (by kernel_rfl)) (fun _ _ _ h => h) (Or.inl ⟨by rfl, ?_⟩) ?_ ?_
             rotate_left
             ·intro w'
              go_simp
              with_reducible rfl
             rotate_left
             ·simp only [Act.put, qsA, qsB, qsC, i64_w, i32_w, qsD, qsE]
              rfl
             refine take_ (i := 18) (N := some 127) (v := ?_) (a' := ?_) #[true, true, true, true, true, true, true, true, true, true, true, true, true, true, true, true, true, true, true, false, false, false, false, false, false, false, false, false, false, false, false, false, false, false, false, false, false, false, false, false, false, false, false, false, false, false, false, false, false, false, false, false, false, false, false, false, false, false, false, false, false, false, false, false, false, false, false, false, false, false, false, false, false, false, false, false, false, false, false, false, false, false, false, false, false, false, false, false, false, false, false, false, false] rfl rfl (take_ofW HT_.out HW_.out (by kernel_rfl)) (fun _ _ _ h => h) (Or.inl ⟨by rfl, ?_⟩) hHeld ?_ ?_
             rotate_left
             ·rintro w' ⟨s0, s1, s2, s3, s4, s5, s6, s7, s8⟩
              go_simp
              with_reducible rfl
             rotate_left
             ·simp only [Act.put, qsA, qsB, qsC, i64_w, i32_w, qsD, qsE]
              rfl
             refine pure_ (i := 19) (N := some 128) (v := ?_) (a' := ?_) #[true, true, true, true, true, true, true, true, true, true, true, true, true, true, true, true, true, true, true, true, false, false, false, false, false, false, false, false, false, false, false, false, false, false, false, false, false, false, false, false, false, false, false, false, false, false, false, false, false, false, false, false, false, false, false, false, false, false, false, false, false, false, false, false, false, false, false, false, false, false, false, false, false, false, false, false, false, false, false, false, false, false, false, false, false, false, false, false, false, false, false, false, false] rfl rfl (any_of HT_.out (by kernel_rfl)) (fun _ _ _ h => h) (Or.inl ⟨by rfl, ?_⟩) ?_ ?_
             rotate_left
             ·intro w'
              go_simp
              with_reducible rfl
             rotate_left
             ·simp only [Act.put, qsA, qsB, qsC, i64_w, i32_w, qsD, qsE]
              rfl
             refine pure_ (i := 20) (N := some 129) (v := ?_) (a' := ?_) #[true, true, true, true, true, true, true, true, true, true, true, true, true, true, true, true, true, true, true, true, true, false, false, false, false, false, false, false, false, false, false, false, false, false, false, false, false, false, false, false, false, false, false, false, false, false, false, false, false, false, false, false, false, false, false, false, false, false, false, false, false, false, false, false, false, false, false, false, false, false, false, false, false, false, false, false, false, false, false, false, false, false, false, false, false, false, false, false, false, false, false, false, false] rfl rfl (any_of HT_.out (by kernel_rfl)) (fun _ _ _ h => h) (Or.inl ⟨by rfl, ?_⟩) ?_ ?_
             rotate_left
             ·intro w'
              go_simp
              with_reducible rfl
             rotate_left
             ·simp only [Act.put, qsA, qsB, qsC, i64_w, i32_w, qsD, qsE]
              rfl
             refine pure_ (i := 21) (N := some 130) (v := ?_) (a' := ?_) #[true, true, true, true, true, true, true, true, true, true, true, true, true, true, true, true, true, true, true, true, true, true, false, false, false, false, false, false, false, false, false, false, false, false, false, false, false, false, false, false, false, false, false, false, false, false, false, false, false, false, false, false, false, false, false, false, false, false, false, false, false, false, false, false, false, false, false, false, false, false, false, false, false, false, false, false, false, false, false, false, false, false, false, false, false, false, false, false, false, false, false, false, false] rfl rfl (any_of HT_.out (by kernel_rfl)) (fun _ _ _ h => h) (Or.inl ⟨by rfl, ?_⟩) ?_ ?_
             rotate_left
             ·intro w'
              go_simp
              with_reducible rfl
             rotate_left
             ·simp only [Act.put, qsA, qsB, qsC, i64_w, i32_w, qsD, qsE]
              rfl
             refine pure_ (i := 22) (N := some 131) (v := ?_) (a' := ?_) #[true, true, true, true, true, true, true, true, true, true, true, true, true, true, true, true, true, true, true, true, true, true, true, false, false, false, false, false, false, false, false, false, false, false, false, false, false, false, false, false, false, false, false, false, false, false, false, false, false, false, false, false, false, false, false, false, false, false, false, false, false, false, false, false, false, false, false, false, false, false, false, false, false, false, false, false, false, false, false, false, false, false, false, false, false, false, false, false, false, false, false, false, false] rfl rfl (any_of HT_.out (by kernel_rfl)) (fun _ _ _ h => h) (Or.inl ⟨by rfl, ?_⟩) ?_ ?_
             rotate_left
             ·intro w'
              go_simp
              with_reducible rfl
             rotate_left
             ·simp only [Act.put, qsA, qsB, qsC, i64_w, i32_w, qsD, qsE]
              rfl
             refine pure_ (i := 23) (N := some 132) (v := ?_) (a' := ?_) #[true, true, true, true, true, true, true, true, true, true, true, true, true, true, true, true, true, true, true, true, true, true, true, true, false, false, false, false, false, false, false, false, false, false, false, false, false, false, false, false, false, false, false, false, false, false, false, false, false, false, false, false, false, false, false, false, false, false, false, false, false, false, false, false, false, false, false, false, false, false, false, false, false, false, false, false, false, false, false, false, false, false, false, false, false, false, false, false, false, false, false, false, false] rfl rfl (any_of HT_.out (by kernel_rfl)) (fun _ _ _ h => h) (Or.inl ⟨by rfl, ?_⟩) ?_ ?_
             rotate_left
             ·intro w'
              go_simp
              with_reducible rfl
             rotate_left
             ·simp only [Act.put, qsA, qsB, qsC, i64_w, i32_w, qsD, qsE]
              rfl
             refine pure_ (i := 24) (N := some 133) (v := ?_) (a' := ?_) #[true, true, true, true, true, true, true, true, true, true, true, true, true, true, true, true, true, true, true, true, true, true, true, true, true, false, false, false, false, false, false, false, false, false, false, false, false, false, false, false, false, false, false, false, false, false, false, false, false, false, false, false, false, false, false, false, false, false, false, false, false, false, false, false, false, false, false, false, false, false, false, false, false, false, false, false, false, false, false, false, false, false, false, false, false, false, false, false, false, false, false, false, false] rfl rfl (any_of HT_.out (by kernel_rfl)) (fun _ _ _ h => h) (Or.inl ⟨by rfl, ?_⟩) ?_ ?_
             rotate_left
             ·intro w'
              go_simp
              with_reducible rfl
             rotate_left
             ·simp only [Act.put, qsA, qsB, qsC, i64_w, i32_w, qsD, qsE]
              rfl
             refine pure_ (i := 25) (N := some 134) (v := ?_) (a' := ?_) #[true, true, true, true, true, true, true, true, true, true, true, true, true, true, true, true, true, true, true, true, true, true, true, true, true, true, false, false, false, false, false, false, false, false, false, false, false, false, false, false, false, false, false, false, false, false, false, false, false, false, false, false, false, false, false, false, false, false, false, false, false, false, false, false, false, false, false, false, false, false, false, false, false, false, false, false, false, false, false, false, false, false, false, false, false, false, false, false, false, false, false, false, false] rfl rfl (any_of HT_.out (by kernel_rfl)) (fun _ _ _ h => h) (Or.inl ⟨by rfl, ?_⟩) ?_ ?_
             rotate_left
             ·intro w'
              go_simp
              with_reducible rfl
             rotate_left
             ·simp only [Act.put, qsA, qsB, qsC, i64_w, i32_w, qsD, qsE]
              rfl
             refine pure_ (i := 26) (N := some 135) (v := ?_) (a' := ?_) #[true, true, true, true, true, true, true, true, true, true, true, true, true, true, true, true, true, true, true, true, true, true, true, true, true, true, true, false, false, false, false, false, false, false, false, false, false, false, false, false, false, false, false, false, false, false, false, false, false, false, false, false, false, false, false, false, false, false, false, false, false, false, false, false, false, false, false, false, false, false, false, false, false, false, false, false, false, false, false, false, false, false, false, false, false, false, false, false, false, false, false, false, false] rfl rfl (any_of HT_.out (by kernel_rfl)) (fun _ _ _ h => h) (Or.inl ⟨by rfl, ?_⟩) ?_ ?_
             rotate_left
             ·intro w'
              go_simp
              with_reducible rfl
             rotate_left
             ·simp only [Act.put, qsA, qsB, qsC, i64_w, i32_w, qsD, qsE]
              rfl
             refine pure_ (i := 27) (N := some 136) (v := ?_) (a' := ?_) #[true, true, true, true, true, true, true, true, true, true, true, true, true, true, true, true, true, true, true, true, true, true, true, true, true, true, true, true, false, false, false, false, false, false, false, false, false, false, false, false, false, false, false, false, false, false, false, false, false, false, false, false, false, false, false, false, false, false, false, false, false, false, false, false, false, false, false, false, false, false, false, false, false, false, false, false, false, false, false, false, false, false, false, false, false, false, false, false, false, false, false, false, false] rfl rfl (any_of HT_.out (by kernel_rfl)) (fun _ _ _ h => h) (Or.inl ⟨by rfl, ?_⟩) ?_ ?_
             rotate_left
             ·intro w'
              go_simp
              with_reducible rfl
             rotate_left
             ·simp only [Act.put, qsA, qsB, qsC, i64_w, i32_w, qsD, qsE]
              rfl
             refine pure_ (i := 28) (N := some 137) (v := ?_) (a' := ?_) #[true, true, true, true, true, true, true, true, true, true, true, true, true, true, true, true, true, true, true, true, true, true, true, true, true, true, true, true, true, false, false, false, false, false, false, false, false, false, false, false, false, false, false, false, false, false, false, false, false, false, false, false, false, false, false, false, false, false, false, false, false, false, false, false, false, false, false, false, false, false, false, false, false, false, false, false, false, false, false, false, false, false, false, false, false, false, false, false, false, false, false, false, false] rfl rfl (any_of HT_.out (by kernel_rfl)) (fun _ _ _ h => h) (Or.inl ⟨by rfl, ?_⟩) ?_ ?_
             rotate_left
             ·intro w'
              go_simp
              with_reducible rfl
             rotate_left
             ·simp only [Act.put, qsA, qsB, qsC, i64_w, i32_w, qsD, qsE]
              rfl
             refine pure_ (i := 29) (N := some 138) (v := ?_) (a' := ?_) #[true, true, true, true, true, true, true, true, true, true, true, true, true, true, true, true, true, true, true, true, true, true, true, true, true, true, true, true, true, true, false, false, false, false, false, false, false, false, false, false, false, false, false, false, false, false, false, false, false, false, false, false, false, false, false, false, false, false, false, false, false, false, false, false, false, false, false, false, false, false, false, false, false, false, false, false, false, false, false, false, false, false, false, false, false, false, false, false, false, false, false, false, false] rfl rfl (any_of HT_.out (by kernel_rfl)) (fun _ _ _ h => h) (Or.inl ⟨by rfl, ?_⟩) ?_ ?_
             rotate_left
             ·intro w'
              go_simp
              with_reducible rfl
             rotate_left
             ·simp only [Act.put, qsA, qsB, qsC, i64_w, i32_w, qsD, qsE]
              rfl
             refine pure_ (i := 34) (N := some 143) (v := ?_) (a' := ?_) #[true, true, true, true, true, true, true, true, true, true, true, true, true, true, true, true, true, true, true, true, true, true, true, true, true, true, true, true, true, true, false, false, false, false, true, false, false, false, false, false, false, false, false, false, false, false, false, false, false, false, false, false, false, false, false, false, false, false, false, false, false, false, false, false, false, false, false, false, false, false, false, false, false, false, false, false, false, false, false, false, false, false, false, false, false, false, false, false, false, false, false, false, false] rfl rfl (any_of HT_.out (by kernel_rfl)) (fun _ _ _ h => h) (Or.inl ⟨by rfl, ?_⟩) ?_ ?_
             rotate_left
             ·intro w'
              go_simp
              with_reducible rfl
             rotate_left
             ·simp only [Act.put, qsA, qsB, qsC, i64_w, i32_w, qsD, qsE]
              rfl
             refine take_ (i := 30) (N := some 139) (v := ?_) (a' := ?_) #[true, true, true, true, true, true, true, true, true, true, true, true, true, true, true, true, true, true, true, true, true, true, true, true, true, true, true, true, true, true, true, false, false, false, true, false, false, false, false, false, false, false, false, false, false, false, false, false, false, false, false, false, false, false, false, false, false, false, false, false, false, false, false, false, false, false, false, false, false, false, false, false, false, false, false, false, false, false, false, false, false, false, false, false, false, false, false, false, false, false, false, false, false] rfl rfl (take_ofW HT_.out HW_.out (by kernel_rfl)) (fun _ _ _ h => h) (Or.inl ⟨by rfl, ?_⟩) hHeld ?_ ?_
             rotate_left
             ·rintro w' ⟨s0, s1, s2, s3, s4, s5, s6, s7, s8⟩
              go_simp
              with_reducible rfl
             rotate_left
             ·simp only [Act.put, qsA, qsB, qsC, i64_w, i32_w, qsD, qsE]
              rfl
             refine pure_ (i := 31) (N := some 140) (v := ?_) (a' := ?_) #[true, true, true, true, true, true, true, true, true, true, true, true, true, true, true, true, true, true, true, true, true, true, true, true, true, true, true, true, true, true, true, true, false, false, true, false, false, false, false, false, false, false, false, false, false, false, false, false, false, false, false, false, false, false, false, false, false, false, false, false, false, false, false, false, false, false, false, false, false, false, false, false, false, false, false, false, false, false, false, false, false, false, false, false, false, false, false, false, false, false, false, false, false] rfl rfl (any_of HT_.out (by kernel_rfl)) (fun _ _ _ h => h) (Or.inl ⟨by rfl, ?_⟩) ?_ ?_
             rotate_left
             ·intro w'
              go_simp
              with_reducible rfl
             rotate_left
             ·simp only [Act.put, qsA, qsB, qsC, i64_w, i32_w, qsD, qsE]
              rfl
             refine pure_ (i := 32) (N := some 141) (v := ?_) (a' := ?_) #[true, true, true, true, true, true, true, true, true, true, true, true, true, true, true, true, true, true, true, true, true, true, true, true, true, true, true, true, true, true, true, true, true, false, true, false, false, false, false, false, false, false, false, false, false, false, false, false, false, false, false, false, false, false, false, false, false, false, false, false, false, false, false, false, false, false, false, false, false, false, false, false, false, false, false, false, false, false, false, false, false, false, false, false, false, false, false, false, false, false, false, false, false] rfl rfl (any_of HT_.out (by kernel_rfl)) (fun _ _ _ h => h) (Or.inl ⟨by rfl, ?_⟩) ?_ ?_
             rotate_left
             ·intro w'
              go_simp
              with_reducible rfl
             rotate_left
             ·simp only [Act.put, qsA, qsB, qsC, i64_w, i32_w, qsD, qsE]
              rfl
             refine pure_ (i := 33) (N := some 142) (v := ?_) (a' := ?_) #[true, true, true, true, true, true, true, true, true, true, true, true, true, true, true, true, true, true, true, true, true, true, true, true, true, true, true, true, true, true, true, true, true, true, true, false, false, false, false, false, false, false, false, false, false, false, false, false, false, false, false, false, false, false, false, false, false, false, false, false, false, false, false, false, false, false, false, false, false, false, false, false, false, false, false, false, false, false, false, false, false, false, false, false, false, false, false, false, false, false, false, false, false] rfl rfl (any_of HT_.out (by kernel_rfl)) (fun _ _ _ h => h) (Or.inl ⟨by rfl, ?_⟩) ?_ ?_
             rotate_left
             ·intro w'
              go_simp
              with_reducible rfl
             rotate_left
             ·simp only [Act.put, qsA, qsB, qsC, i64_w, i32_w, qsD, qsE]
              rfl
             refine take_ (i := 35) (N := some 144) (v := ?_) (a' := ?_) #[true, true, true, true, true, true, true, true, true, true, true, true, true, true, true, true, true, true, true, true, true, true, true, true, true, true, true, true, true, true, true, true, true, true, true, true, false, false, false, false, false, false, false, false, false, false, false, false, false, false, false, false, false, false, false, false, false, false, false, false, false, false, false, false, false, false, false, false, false, false, false, false, false, false, false, false, false, false, false, false, false, false, false, false, false, false, false, false, false, false, false, false, false] rfl rfl (take_ofW HT_.out HW_.out (by kernel_rfl)) (fun _ _ _ h => h) (Or.inl ⟨by rfl, ?_⟩) hHeld ?_ ?_
             rotate_left
             ·rintro w' ⟨s0, s1, s2, s3, s4, s5, s6, s7, s8⟩
              go_simp
              with_reducible rfl
             rotate_left
             ·simp only [Act.put, qsA, qsB, qsC, i64_w, i32_w, qsD, qsE]
              rfl
             refine pure_ (i := 36) (N := some 145) (v := ?_) (a' := ?_) #[true, true, true, true, true, true, true, true, true, true, true, true, true, true, true, true, true, true, true, true, true, true, true, true, true, true, true, true, true, true, true, true, true, true, true, true, true, false, false, false, false, false, false, false, false, false, false, false, false, false, false, false, false, false, false, false, false, false, false, false, false, false, false, false, false, false, false, false, false, false, false, false, false, false, false, false, false, false, false, false, false, false, false, false, false, false, false, false, false, false, false, false, false] rfl rfl (any_of HT_.out (by kernel_rfl)) (fun _ _ _ h => h) (Or.inl ⟨by rfl, ?_⟩) ?_ ?_
             rotate_left
             ·intro w'
              go_simp
              with_reducible rfl
             rotate_left
             ·simp only [Act.put, qsA, qsB, qsC, i64_w, i32_w, qsD, qsE]
              rfl
             refine pure_ (i := 37) (N := some 146) (v := ?_) (a' := ?_) #[true, true, true, true, true, true, true, true, true, true, true, true, true, true, true, true, true, true, true, true, true, true, true, true, true, true, true, true, true, true, true, true, true, true, true, true, true, true, false, false, false, false, false, false, false, false, false, false, false, false, false, false, false, false, false, false, false, false, false, false, false, false, false, false, false, false, false, false, false, false, false, false, false, false, false, false, false, false, false, false, false, false, false, false, false, false, false, false, false, false, false, false, false] rfl rfl (any_of HT_.out (by kernel_rfl)) (fun _ _ _ h => h) (Or.inl ⟨by rfl, ?_⟩) ?_ ?_
             rotate_left
             ·intro w'
              go_simp
              with_reducible rfl
             rotate_left
             ·simp only [Act.put, qsA, qsB, qsC, i64_w, i32_w, qsD, qsE]
              rfl
             refine pure_ (i := 38) (N := some 147) (v := ?_) (a' := ?_) #[true, true, true, true, true, true, true, true, true, true, true, true, true, true, true, true, true, true, true, true, true, true, true, true, true, true, true, true, true, true, true, true, true, true, true, true, true, true, true, false, false, false, false, false, false, false, false, false, false, false, false, false, false, false, false, false, false, false, false, false, false, false, false, false, false, false, false, false, false, false, false, false, false, false, false, false, false, false, false, false, false, false, false, false, false, false, false, false, false, false, false, false, false] rfl rfl (any_of HT_.out (by kernel_rfl)) (fun _ _ _ h => h) (Or.inl ⟨by rfl, ?_⟩) ?_ ?_
             rotate_left
             ·intro w'
              go_simp
              with_reducible rfl
             rotate_left
             ·simp only [Act.put, qsA, qsB, qsC, i64_w, i32_w, qsD, qsE]
              rfl
             refine pure_ (i := 39) (N := some 148) (v := ?_) (a' := ?_) #[true, true, true, true, true, true, true, true, true, true, true, true, true, true, true, true, true, true, true, true, true, true, true, true, true, true, true, true, true, true, true, true, true, true, true, true, true, true, true, true, false, false, false, false, false, false, false, false, false, false, false, false, false, false, false, false, false, false, false, false, false, false, false, false, false, false, false, false, false, false, false, false, false, false, false, false, false, false, false, false, false, false, false, false, false, false, false, false, false, false, false, false, false] rfl rfl (any_of HT_.out (by kernel_rfl)) (fun _ _ _ h => h) (Or.inl ⟨by rfl, ?_⟩) ?_ ?_
             rotate_left
             ·intro w'
              go_simp
              with_reducible rfl
             rotate_left
             ·simp only [Act.put, qsA, qsB, qsC, i64_w, i32_w, qsD, qsE]
              rfl
             refine pure_ (i := 40) (N := some 149) (v := ?_) (a' := ?_) #[true, true, true, true, true, true, true, true, true, true, true, true, true, true, true, true, true, true, true, true, true, true, true, true, true, true, true, true, true, true, true, true, true, true, true, true, true, true, true, true, true, false, false, false, false, false, false, false, false, false, false, false, false, false, false, false, false, false, false, false, false, false, false, false, false, false, false, false, false, false, false, false, false, false, false, false, false, false, false, false, false, false, false, false, false, false, false, false, false, false, false, false, false] rfl rfl (any_of HT_.out (by kernel_rfl)) (fun _ _ _ h => h) (Or.inl ⟨by rfl, ?_⟩) ?_ ?_
             rotate_left
             ·intro w'
              go_simp
              with_reducible rfl
             rotate_left
             ·simp only [Act.put, qsA, qsB, qsC, i64_w, i32_w, qsD, qsE]
              rfl
             refine pure_ (i := 41) (N := some 150) (v := ?_) (a' := ?_) #[true, true, true, true, true, true, true, true, true, true, true, true, true, true, true, true, true, true, true, true, true, true, true, true, true, true, true, true, true, true, true, true, true, true, true, true, true, true, true, true, true, true, false, false, false, false, false, false, false, false, false, false, false, false, false, false, false, false, false, false, false, false, false, false, false, false, false, false, false, false, false, false, false, false, false, false, false, false, false, false, false, false, false, false, false, false, false, false, false, false, false, false, false] rfl rfl (any_of HT_.out (by kernel_rfl)) (fun _ _ _ h => h) (Or.inl ⟨by rfl, ?_⟩) ?_ ?_
             rotate_left
             ·intro w'
              go_simp
              with_reducible rfl
             rotate_left
             ·simp only [Act.put, qsA, qsB, qsC, i64_w, i32_w, qsD, qsE]
              rfl
             refine pure_ (i := 42) (N := some 151) (v := ?_) (a' := ?_) #[true, true, true, true, true, true, true, true, true, true, true, true, true, true, true, true, true, true, true, true, true, true, true, true, true, true, true, true, true, true, true, true, true, true, true, true, true, true, true, true, true, true, true, false, false, false, false, false, false, false, false, false, false, false, false, false, false, false, false, false, false, false, false, false, false, false, false, false, false, false, false, false, false, false, false, false, false, false, false, false, false, false, false, false, false, false, false, false, false, false, false, false, false] rfl rfl (any_of HT_.out (by kernel_rfl)) (fun _ _ _ h => h) (Or.inl ⟨by rfl, ?_⟩) ?_ ?_
             rotate_left
             ·intro w'
              go_simp
              with_reducible rfl
             rotate_left
             ·simp only [Act.put, qsA, qsB, qsC, i64_w, i32_w, qsD, qsE]
              rfl
             refine pure_ (i := 43) (N := some 152) (v := ?_) (a' := ?_) #[true, true, true, true, true, true, true, true, true, true, true, true, true, true, true, true, true, true, true, true, true, true, true, true, true, true, true, true, true, true, true, true, true, true, true, true, true, true, true, true, true, true, true, true, false, false, false, false, false, false, false, false, false, false, false, false, false, false, false, false, false, false, false, false, false, false, false, false, false, false, false, false, false, false, false, false, false, false, false, false, false, false, false, false, false, false, false, false, false, false, false, false, false] rfl rfl (any_of HT_.out (by kernel_rfl)) (fun _ _ _ h => h) (Or.inl ⟨by rfl, ?_⟩) ?_ ?_
             rotate_left
             ·intro w'
              go_simp
              with_reducible rfl
             rotate_left
             ·simp only [Act.put, qsA, qsB, qsC, i64_w, i32_w, qsD, qsE]
              rfl
             refine pure_ (i := 44) (N := some 153) (v := ?_) (a' := ?_) #[true, true, true, true, true, true, true, true, true, true, true, true, true, true, true, true, true, true, true, true, true, true, true, true, true, true, true, true, true, true, true, true, true, true, true, true, true, true, true, true, true, true, true, true, true, false, false, false, false, false, false, false, false, false, false, false, false, false, false, false, false, false, false, false, false, false, false, false, false, false, false, false, false, false, false, false, false, false, false, false, false, false, false, false, false, false, false, false, false, false, false, false, false] rfl rfl (any_of HT_.out (by kernel_rfl)) (fun _ _ _ h => h) (Or.inl ⟨by rfl, ?_⟩) ?_ ?_
             rotate_left
             ·intro w'
              go_simp
              with_reducible rfl
             rotate_left
             ·simp only [Act.put, qsA, qsB, qsC, i64_w, i32_w, qsD, qsE]
              rfl
             refine pure_ (i := 45) (N := some 154) (v := ?_) (a' := ?_) #[true, true, true, true, true, true, true, true, true, true, true, true, true, true, true, true, true, true, true, true, true, true, true, true, true, true, true, true, true, true, true, true, true, true, true, true, true, true, true, true, true, true, true, true, true, true, false, false, false, false, false, false, false, false, false, false, false, false, false, false, false, false, false, false, false, false, false, false, false, false, false, false, false, false, false, false, false, false, false, false, false, false, false, false, false, false, false, false, false, false, false, false, false] rfl rfl (any_of HT_.out (by kernel_rfl)) (fun _ _ _ h => h) (Or.inl ⟨by rfl, ?_⟩) ?_ ?_
             rotate_left
             ·intro w'
              go_simp
              with_reducible rfl
             rotate_left
             ·simp only [Act.put, qsA, qsB, qsC, i64_w, i32_w, qsD, qsE]
              rfl
             refine pure_ (i := 46) (N := some 155) (v := ?_) (a' := ?_) #[true, true, true, true, true, true, true, true, true, true, true, true, true, true, true, true, true, true, true, true, true, true, true, true, true, true, true, true, true, true, true, true, true, true, true, true, true, true, true, true, true, true, true, true, true, true, true, false, false, false, false, false, false, false, false, false, false, false, false, false, false, false, false, false, false, false, false, false, false, false, false, false, false, false, false, false, false, false, false, false, false, false, false, false, false, false, false, false, false, false, false, false, false] rfl rfl (any_of HT_.out (by kernel_rfl)) (fun _ _ _ h => h) (Or.inl ⟨by rfl, ?_⟩) ?_ ?_
             rotate_left
             ·intro w'
              go_simp
              with_reducible rfl
             rotate_left
             ·simp only [Act.put, qsA, qsB, qsC, i64_w, i32_w, qsD, qsE]
              rfl
             refine pure_ (i := 47) (N := some 156) (v := ?_) (a' := ?_) #[true, true, true, true, true, true, true, true, true, true, true, true, true, true, true, true, true, true, true, true, true, true, true, true, true, true, true, true, true, true, true, true, true, true, true, true, true, true, true, true, true, true, true, true, true, true, true, true, false, false, false, false, false, false, false, false, false, false, false, false, false, false, false, false, false, false, false, false, false, false, false, false, false, false, false, false, false, false, false, false, false, false, false, false, false, false, false, false, false, false, false, false, false] rfl rfl (any_of HT_.out (by kernel_rfl)) (fun _ _ _ h => h) (Or.inl ⟨by rfl, ?_⟩) ?_ ?_
             rotate_left
             ·intro w'
              go_simp
              with_reducible rfl
             rotate_left
             ·simp only [Act.put, qsA, qsB, qsC, i64_w, i32_w, qsD, qsE]
              rfl
             refine pure_ (i := 48) (N := some 157) (v := ?_) (a' := ?_) #[true, true, true, true, true, true, true, true, true, true, true, true, true, true, true, true, true, true, true, true, true, true, true, true, true, true, true, true, true, true, true, true, true, true, true, true, true, true, true, true, true, true, true, true, true, true, true, true, true, false, false, false, false, false, false, false, false, false, false, false, false, false, false, false, false, false, false, false, false, false, false, false, false, false, false, false, false, false, false, false, false, false, false, false, false, false, false, false, false, false, false, false, false] rfl rfl (any_of HT_.out (by kernel_rfl)) (fun _ _ _ h => h) (Or.inl ⟨by rfl, ?_⟩) ?_ ?_
             rotate_left
             ·intro w'
              go_simp
              with_reducible rfl
             rotate_left
             ·simp only [Act.put, qsA, qsB, qsC, i64_w, i32_w, qsD, qsE]
              rfl
             refine pure_ (i := 49) (N := some 158) (v := ?_) (a' := ?_) #[true, true, true, true, true, true, true, true, true, true, true, true, true, true, true, true, true, true, true, true, true, true, true, true, true, true, true, true, true, true, true, true, true, true, true, true, true, true, true, true, true, true, true, true, true, true, true, true, true, true, false, false, false, false, false, false, false, false, false, false, false, false, false, false, false, false, false, false, false, false, false, false, false, false, false, false, false, false, false, false, false, false, false, false, false, false, false, false, false, false, false, false, false] rfl rfl (any_of HT_.out (by kernel_rfl)) (fun _ _ _ h => h) (Or.inl ⟨by rfl, ?_⟩) ?_ ?_
             rotate_left
             ·intro w'
              go_simp
              with_reducible rfl
             rotate_left
             ·simp only [Act.put, qsA, qsB, qsC, i64_w, i32_w, qsD, qsE]
              rfl
             refine pure_ (i := 50) (N := some 159) (v := ?_) (a' := ?_) #[true, true, true, true, true, true, true, true, true, true, true, true, true, true, true, true, true, true, true, true, true, true, true, true, true, true, true, true, true, true, true, true, true, true, true, true, true, true, true, true, true, true, true, true, true, true, true, true, true, true, true, false, false, false, false, false, false, false, false, false, false, false, false, false, false, false, false, false, false, false, false, false, false, false, false, false, false, false, false, false, false, false, false, false, false, false, false, false, false, false, false, false, false] rfl rfl (any_of HT_.out (by kernel_rfl)) (fun _ _ _ h => h) (Or.inl ⟨by rfl, ?_⟩) ?_ ?_
             rotate_left
             ·intro w'
              go_simp
              with_reducible rfl
             rotate_left
             ·simp only [Act.put, qsA, qsB, qsC, i64_w, i32_w, qsD, qsE]
              rfl
             refine pure_ (i := 51) (N := some 160) (v := ?_) (a' := ?_) #[true, true, true, true, true, true, true, true, true, true, true, true, true, true, true, true, true, true, true, true, true, true, true, true, true, true, true, true, true, true, true, true, true, true, true, true, true, true, true, true, true, true, true, true, true, true, true, true, true, true, true, true, false, false, false, false, false, false, false, false, false, false, false, false, false, false, false, false, false, false, false, false, false, false, false, false, false, false, false, false, false, false, false, false, false, false, false, false, false, false, false, false, false] rfl rfl (any_of HT_.out (by kernel_rfl)) (fun _ _ _ h => h) (Or.inl ⟨by rfl, ?_⟩) ?_ ?_
             rotate_left
             ·intro w'
              go_simp
              with_reducible rfl
             rotate_left
             ·simp only [Act.put, qsA, qsB, qsC, i64_w, i32_w, qsD, qsE]
              rfl
             refine pure_ (i := 52) (N := some 161) (v := ?_) (a' := ?_) #[true, true, true, true, true, true, true, true, true, true, true, true, true, true, true, true, true, true, true, true, true, true, true, true, true, true, true, true, true, true, true, true, true, true, true, true, true, true, true, true, true, true, true, true, true, true, true, true, true, true, true, true, true, false, false, false, false, false, false, false, false, false, false, false, false, false, false, false, false, false, false, false, false, false, false, false, false, false, false, false, false, false, false, false, false, false, false, false, false, false, false, false, false] rfl rfl (any_of HT_.out (by kernel_rfl)) (fun _ _ _ h => h) (Or.inl ⟨by rfl, ?_⟩) ?_ ?_
             rotate_left
             ·intro w'
              go_simp
              with_reducible rfl
             rotate_left
             ·simp only [Act.put, qsA, qsB, qsC, i64_w, i32_w, qsD, qsE]
              rfl
             refine pure_ (i := 54) (N := some 163) (v := ?_) (a' := ?_) #[true, true, true, true, true, true, true, true, true, true, true, true, true, true, true, true, true, true, true, true, true, true, true, true, true, true, true, true, true, true, true, true, true, true, true, true, true, true, true, true, true, true, true, true, true, true, true, true, true, true, true, true, true, false, true, false, false, false, false, false, false, false, false, false, false, false, false, false, false, false, false, false, false, false, false, false, false, false, false, false, false, false, false, false, false, false, false, false, false, false, false, false, false] rfl rfl (any_of HT_.out (by kernel_rfl)) (fun _ _ _ h => h) (Or.inl ⟨by rfl, ?_⟩) ?_ ?_
             rotate_left
             ·intro w'
              go_simp
              with_reducible rfl
             rotate_left
             ·simp only [Act.put, qsA, qsB, qsC, i64_w, i32_w, qsD, qsE]
              rfl
             refine one_ (i := 53) (N := some 162) #[true, true, true, true, true, true, true, true, true, true, true, true, true, true, true, true, true, true, true, true, true, true, true, true, true, true, true, true, true, true, true, true, true, true, true, true, true, true, true, true, true, true, true, true, true, true, true, true, true, true, true, true, true, true, true, false, false, false, false, false, false, false, false, false, false, false, false, false, false, false, false, false, false, false, false, false, false, false, false, false, false, false, false, false, false, false, false, false, false, false, false, false, false] rfl rfl (one_of HT_.out (by kernel_rfl)) (by decide) (fun K hK => ?_)
             refine goes_ Tryd.func26 (by kernel_rfl) rfl #[.string (t175.extract ((ji70) : Int).toNat ((ji85) : Int).toNat)] (by rfl) rfl rfl (by (try simp only [List.map_toArray, List.map_cons, List.map_nil]); first | done | (simp only [hji70, hji85]; rfl) | rfl | (simp only [List.length_drop, List.length_take]; rfl)) ?_
             with_reducible refine (portageref10_Number.calls kj40 (t175.extract ((ji70) : Int).toNat ((ji85) : Int).toNat) t185 _ A74.out).mono ?_
             rintro e w' ⟨rfl, ⟨nd, rfl⟩⟩
             refine ⟨_, rfl, ?_⟩
             refine hK.out _ _ ⟨(blk_cell BK184.out 0).trans rfl, (blk_cell BK184.out 1).trans rfl, (blk_cell BK184.out 2).trans rfl, (blk_cell BK184.out 3).trans rfl, (blk_cell BK184.out 4).trans rfl, (blk_cell BK184.out 5).trans rfl, (blk_cell BK184.out 6).trans rfl, (blk_cell BK184.out 7).trans rfl, (blk_cell BK184.out 8).trans rfl⟩ (fun hHeld => ?_)
             clear hK K
             refine norm_ (a' := ?_) ?_ ?_
             rotate_left
             ·show Act.put _ (some 162) _ = _
              simp only [Act.put, qsA, qsB, qsC, i64_w, i32_w, qsD, qsE]
              rfl
             refine pure_ (i := 55) (N := some 164) (v := ?_) (a' := ?_) #[true, true, true, true, true, true, true, true, true, true, true, true, true, true, true, true, true, true, true, true, true, true, true, true, true, true, true, true, true, true, true, true, true, true, true, true, true, true, true, true, true, true, true, true, true, true, true, true, true, true, true, true, true, true, true, true, false, false, false, false, false, false, false, false, false, false, false, false, false, false, false, false, false, false, false, false, false, false, false, false, false, false, false, false, false, false, false, false, false, false, false, false, false] rfl rfl (any_of HT_.out (by kernel_rfl)) (fun _ _ _ h => h) (Or.inl ⟨by rfl, ?_⟩) ?_ ?_
             rotate_left
             ·intro w'
              go_simp
              with_reducible rfl
             rotate_left
             ·simp only [Act.put, qsA, qsB, qsC, i64_w, i32_w, qsD, qsE]
              rfl
             refine pure_ (i := 56) (N := some 165) (v := ?_) (a' := ?_) #[true, true, true, true, true, true, true, true, true, true, true, true, true, true, true, true, true, true, true, true, true, true, true, true, true, true, true, true, true, true, true, true, true, true, true, true, true, true, true, true, true, true, true, true, true, true, true, true, true, true, true, true, true, true, true, true, true, false, false, false, false, false, false, false, false, false, false, false, false, false, false, false, false, false, false, false, false, false, false, false, false, false, false, false, false, false, false, false, false, false, false, false, false] rfl rfl (any_of HT_.out (by kernel_rfl)) (fun _ _ _ h => h) (Or.inl ⟨by rfl, ?_⟩) ?_ ?_
             rotate_left
             ·intro w'
              go_simp
              with_reducible rfl
             rotate_left
             ·simp only [Act.put, qsA, qsB, qsC, i64_w, i32_w, qsD, qsE]
              rfl
             refine pure_ (i := 57) (N := some 166) (v := ?_) (a' := ?_) #[true, true, true, true, true, true, true, true, true, true, true, true, true, true, true, true, true, true, true, true, true, true, true, true, true, true, true, true, true, true, true, true, true, true, true, true, true, true, true, true, true, true, true, true, true, true, true, true, true, true, true, true, true, true, true, true, true, true, false, false, false, false, false, false, false, false, false, false, false, false, false, false, false, false, false, false, false, false, false, false, false, false, false, false, false, false, false, false, false, false, false, false, false] rfl rfl (any_of HT_.out (by kernel_rfl)) (fun _ _ _ h => h) (Or.inl ⟨by rfl, ?_⟩) ?_ ?_
             rotate_left
             ·intro w'
              go_simp
              with_reducible rfl
             rotate_left
             ·simp only [Act.put, qsA, qsB, qsC, i64_w, i32_w, qsD, qsE]
              rfl
             refine pure_ (i := 58) (N := some 167) (v := ?_) (a' := ?_) #[true, true, true, true, true, true, true, true, true, true, true, true, true, true, true, true, true, true, true, true, true, true, true, true, true, true, true, true, true, true, true, true, true, true, true, true, true, true, true, true, true, true, true, true, true, true, true, true, true, true, true, true, true, true, true, true, true, true, true, false, false, false, false, false, false, false, false, false, false, false, false, false, false, false, false, false, false, false, false, false, false, false, false, false, false, false, false, false, false, false, false, false, false] rfl rfl (any_of HT_.out (by kernel_rfl)) (fun _ _ _ h => h) (Or.inl ⟨by rfl, ?_⟩) ?_ ?_
             rotate_left
             ·intro w'
              go_simp
              with_reducible rfl
             rotate_left
             ·simp only [Act.put, qsA, qsB, qsC, i64_w, i32_w, qsD, qsE]
              rfl
             refine pure_ (i := 59) (N := some 168) (v := ?_) (a' := ?_) #[true, true, true, true, true, true, true, true, true, true, true, true, true, true, true, true, true, true, true, true, true, true, true, true, true, true, true, true, true, true, true, true, true, true, true, true, true, true, true, true, true, true, true, true, true, true, true, true, true, true, true, true, true, true, true, true, true, true, true, true, false, false, false, false, false, false, false, false, false, false, false, false, false, false, false, false, false, false, false, false, false, false, false, false, false, false, false, false, false, false, false, false, false] rfl rfl (any_of HT_.out (by kernel_rfl)) (fun _ _ _ h => h) (Or.inl ⟨by rfl, ?_⟩) ?_ ?_
             rotate_left
             ·intro w'
              go_simp
              with_reducible rfl
             rotate_left
             ·simp only [Act.put, qsA, qsB, qsC, i64_w, i32_w, qsD, qsE]
              rfl
             refine pure_ (i := 60) (N := some 169) (v := ?_) (a' := ?_) #[true, true, true, true, true, true, true, true, true, true, true, true, true, true, true, true, true, true, true, true, true, true, true, true, true, true, true, true, true, true, true, true, true, true, true, true, true, true, true, true, true, true, true, true, true, true, true, true, true, true, true, true, true, true, true, true, true, true, true, true, true, false, false, false, false, false, false, false, false, false, false, false, false, false, false, false, false, false, false, false, false, false, false, false, false, false, false, false, false, false, false, false, false] rfl rfl (any_of HT_.out (by kernel_rfl)) (fun _ _ _ h => h) (Or.inl ⟨by rfl, ?_⟩) ?_ ?_
             rotate_left
             ·intro w'
              go_simp
              with_reducible rfl
             rotate_left
             ·simp only [Act.put, qsA, qsB, qsC, i64_w, i32_w, qsD, qsE]
              rfl
             refine pure_ (i := 61) (N := some 170) (v := ?_) (a' := ?_) #[true, true, true, true, true, true, true, true, true, true, true, true, true, true, true, true, true, true, true, true, true, true, true, true, true, true, true, true, true, true, true, true, true, true, true, true, true, true, true, true, true, true, true, true, true, true, true, true, true, true, true, true, true, true, true, true, true, true, true, true, true, true, false, false, false, false, false, false, false, false, false, false, false, false, false, false, false, false, false, false, false, false, false, false, false, false, false, false, false, false, false, false, false] rfl rfl (any_of HT_.out (by kernel_rfl)) (fun _ _ _ h => h) (Or.inl ⟨by rfl, ?_⟩) ?_ ?_
             rotate_left
             ·intro w'
              go_simp
              with_reducible rfl
             rotate_left
             ·simp only [Act.put, qsA, qsB, qsC, i64_w, i32_w, qsD, qsE]
              rfl
             refine pure_ (i := 62) (N := some 171) (v := ?_) (a' := ?_) #[true, true, true, true, true, true, true, true, true, true, true, true, true, true, true, true, true, true, true, true, true, true, true, true, true, true, true, true, true, true, true, true, true, true, true, true, true, true, true, true, true, true, true, true, true, true, true, true, true, true, true, true, true, true, true, true, true, true, true, true, true, true, true, false, false, false, false, false, false, false, false, false, false, false, false, false, false, false, false, false, false, false, false, false, false, false, false, false, false, false, false, false, false] rfl rfl (any_of HT_.out (by kernel_rfl)) (fun _ _ _ h => h) (Or.inl ⟨by rfl, ?_⟩) ?_ ?_
             rotate_left
             ·intro w'
              go_simp
              with_reducible rfl
             rotate_left
             ·simp only [Act.put, qsA, qsB, qsC, i64_w, i32_w, qsD, qsE]
              rfl
             refine pure_ (i := 63) (N := some 172) (v := ?_) (a' := ?_) #[true, true, true, true, true, true, true, true, true, true, true, true, true, true, true, true, true, true, true, true, true, true, true, true, true, true, true, true, true, true, true, true, true, true, true, true, true, true, true, true, true, true, true, true, true, true, true, true, true, true, true, true, true, true, true, true, true, true, true, true, true, true, true, true, false, false, false, false, false, false, false, false, false, false, false, false, false, false, false, false, false, false, false, false, false, false, false, false, false, false, false, false, false] rfl rfl (any_of HT_.out (by kernel_rfl)) (fun _ _ _ h => h) (Or.inl ⟨by rfl, ?_⟩) ?_ ?_
             rotate_left
             ·intro w'
              go_simp
              with_reducible rfl
             rotate_left
             ·simp only [Act.put, qsA, qsB, qsC, i64_w, i32_w, qsD, qsE]
              rfl
             refine pure_ (i := 64) (N := some 173) (v := ?_) (a' := ?_) #[true, true, true, true, true, true, true, true, true, true, true, true, true, true, true, true, true, true, true, true, true, true, true, true, true, true, true, true, true, true, true, true, true, true, true, true, true, true, true, true, true, true, true, true, true, true, true, true, true, true, true, true, true, true, true, true, true, true, true, true, true, true, true, true, true, false, false, false, false, false, false, false, false, false, false, false, false, false, false, false, false, false, false, false, false, false, false, false, false, false, false, false, false] rfl rfl (any_of HT_.out (by kernel_rfl)) (fun _ _ _ h => h) (Or.inl ⟨by rfl, ?_⟩) ?_ ?_
             rotate_left
             ·intro w'
              go_simp
              with_reducible rfl
             rotate_left
             ·simp only [Act.put, qsA, qsB, qsC, i64_w, i32_w, qsD, qsE]
              rfl
             refine pure_ (i := 65) (N := some 174) (v := ?_) (a' := ?_) #[true, true, true, true, true, true, true, true, true, true, true, true, true, true, true, true, true, true, true, true, true, true, true, true, true, true, true, true, true, true, true, true, true, true, true, true, true, true, true, true, true, true, true, true, true, true, true, true, true, true, true, true, true, true, true, true, true, true, true, true, true, true, true, true, true, true, false, false, false, false, false, false, false, false, false, false, false, false, false, false, false, false, false, false, false, false, false, false, false, false, false, false, false] rfl rfl (any_of HT_.out (by kernel_rfl)) (fun _ _ _ h => h) (Or.inl ⟨by rfl, ?_⟩) ?_ ?_
             rotate_left
             ·intro w'
              go_simp
              with_reducible rfl
             rotate_left
             ·simp only [Act.put, qsA, qsB, qsC, i64_w, i32_w, qsD, qsE]
              rfl
             refine pure_ (i := 66) (N := some 175) (v := ?_) (a' := ?_) #[true, true, true, true, true, true, true, true, true, true, true, true, true, true, true, true, true, true, true, true, true, true, true, true, true, true, true, true, true, true, true, true, true, true, true, true, true, true, true, true, true, true, true, true, true, true, true, true, true, true, true, true, true, true, true, true, true, true, true, true, true, true, true, true, true, true, true, false, false, false, false, false, false, false, false, false, false, false, false, false, false, false, false, false, false, false, false, false, false, false, false, false, false] rfl rfl (any_of HT_.out (by kernel_rfl)) (fun _ _ _ h => h) (Or.inl ⟨by rfl, ?_⟩) ?_ ?_
             rotate_left
             ·intro w'
              go_simp
              with_reducible rfl
             rotate_left
             ·simp only [Act.put, qsA, qsB, qsC, i64_w, i32_w, qsD, qsE]
              rfl
             refine pure_ (i := 67) (N := some 176) (v := ?_) (a' := ?_) #[true, true, true, true, true, true, true, true, true, true, true, true, true, true, true, true, true, true, true, true, true, true, true, true, true, true, true, true, true, true, true, true, true, true, true, true, true, true, true, true, true, true, true, true, true, true, true, true, true, true, true, true, true, true, true, true, true, true, true, true, true, true, true, true, true, true, true, true, false, false, false, false, false, false, false, false, false, false, false, false, false, false, false, false, false, false, false, false, false, false, false, false, false] rfl rfl (any_of HT_.out (by kernel_rfl)) (fun _ _ _ h => h) (Or.inl ⟨by rfl, ?_⟩) ?_ ?_
             rotate_left
             ·intro w'
              go_simp
              with_reducible rfl
             rotate_left
             ·simp only [Act.put, qsA, qsB, qsC, i64_w, i32_w, qsD, qsE]
              rfl
             refine pure_ (i := 68) (N := some 177) (v := ?_) (a' := ?_) #[true, true, true, true, true, true, true, true, true, true, true, true, true, true, true, true, true, true, true, true, true, true, true, true, true, true, true, true, true, true, true, true, true, true, true, true, true, true, true, true, true, true, true, true, true, true, true, true, true, true, true, true, true, true, true, true, true, true, true, true, true, true, true, true, true, true, true, true, true, false, false, false, false, false, false, false, false, false, false, false, false, false, false, false, false, false, false, false, false, false, false, false, false] rfl rfl (any_of HT_.out (by kernel_rfl)) (fun _ _ _ h => h) (Or.inl ⟨by rfl, ?_⟩) ?_ ?_
             rotate_left
             ·intro w'
              go_simp
              with_reducible rfl
             rotate_left
             ·simp only [Act.put, qsA, qsB, qsC, i64_w, i32_w, qsD, qsE]
              rfl
             refine pure_ (i := 69) (N := some 178) (v := ?_) (a' := ?_) #[true, true, true, true, true, true, true, true, true, true, true, true, true, true, true, true, true, true, true, true, true, true, true, true, true, true, true, true, true, true, true, true, true, true, true, true, true, true, true, true, true, true, true, true, true, true, true, true, true, true, true, true, true, true, true, true, true, true, true, true, true, true, true, true, true, true, true, true, true, true, false, false, false, false, false, false, false, false, false, false, false, false, false, false, false, false, false, false, false, false, false, false, false] rfl rfl (any_of HT_.out (by kernel_rfl)) (fun _ _ _ h => h) (Or.inl ⟨by rfl, ?_⟩) ?_ ?_
             rotate_left
             ·intro w'
              go_simp
              with_reducible rfl
             rotate_left
             ·simp only [Act.put, qsA, qsB, qsC, i64_w, i32_w, qsD, qsE]
              rfl
             refine pure_ (i := 70) (N := some 179) (v := ?_) (a' := ?_) #[true, true, true, true, true, true, true, true, true, true, true, true, true, true, true, true, true, true, true, true, true, true, true, true, true, true, true, true, true, true, true, true, true, true, true, true, true, true, true, true, true, true, true, true, true, true, true, true, true, true, true, true, true, true, true, true, true, true, true, true, true, true, true, true, true, true, true, true, true, true, true, false, false, false, false, false, false, false, false, false, false, false, false, false, false, false, false, false, false, false, false, false, false] rfl rfl (any_of HT_.out (by kernel_rfl)) (fun _ _ _ h => h) (Or.inl ⟨by rfl, ?_⟩) ?_ ?_
             rotate_left
             ·intro w'
              go_simp
              with_reducible rfl
             rotate_left
             ·simp only [Act.put, qsA, qsB, qsC, i64_w, i32_w, qsD, qsE]
              rfl
             refine pure_ (i := 71) (N := some 180) (v := ?_) (a' := ?_) #[true, true, true, true, true, true, true, true, true, true, true, true, true, true, true, true, true, true, true, true, true, true, true, true, true, true, true, true, true, true, true, true, true, true, true, true, true, true, true, true, true, true, true, true, true, true, true, true, true, true, true, true, true, true, true, true, true, true, true, true, true, true, true, true, true, true, true, true, true, true, true, true, false, false, false, false, false, false, false, false, false, false, false, false, false, false, false, false, false, false, false, false, false] rfl rfl (any_of HT_.out (by kernel_rfl)) (fun _ _ _ h => h) (Or.inl ⟨by rfl, ?_⟩) ?_ ?_
             rotate_left
             ·intro w'
              go_simp
              with_reducible rfl
             rotate_left
             ·simp only [Act.put, qsA, qsB, qsC, i64_w, i32_w, qsD, qsE]
              rfl
             refine pure_ (i := 72) (N := some 181) (v := ?_) (a' := ?_) #[true, true, true, true, true, true, true, true, true, true, true, true, true, true, true, true, true, true, true, true, true, true, true, true, true, true, true, true, true, true, true, true, true, true, true, true, true, true, true, true, true, true, true, true, true, true, true, true, true, true, true, true, true, true, true, true, true, true, true, true, true, true, true, true, true, true, true, true, true, true, true, true, true, false, false, false, false, false, false, false, false, false, false, false, false, false, false, false, false, false, false, false, false] rfl rfl (any_of HT_.out (by kernel_rfl)) (fun _ _ _ h => h) (Or.inl ⟨by rfl, ?_⟩) ?_ ?_
             rotate_left
             ·intro w'
              go_simp
              with_reducible rfl
             rotate_left
             ·simp only [Act.put, qsA, qsB, qsC, i64_w, i32_w, qsD, qsE]
              rfl
             refine pure_ (i := 73) (N := some 182) (v := ?_) (a' := ?_) #[true, true, true, true, true, true, true, true, true, true, true, true, true, true, true, true, true, true, true, true, true, true, true, true, true, true, true, true, true, true, true, true, true, true, true, true, true, true, true, true, true, true, true, true, true, true, true, true, true, true, true, true, true, true, true, true, true, true, true, true, true, true, true, true, true, true, true, true, true, true, true, true, true, true, false, false, false, false, false, false, false, false, false, false, false, false, false, false, false, false, false, false, false] rfl rfl (any_of HT_.out (by kernel_rfl)) (fun _ _ _ h => h) (Or.inl ⟨by rfl, ?_⟩) ?_ ?_
             rotate_left
             ·intro w'
              go_simp
              with_reducible rfl
             rotate_left
             ·simp only [Act.put, qsA, qsB, qsC, i64_w, i32_w, qsD, qsE]
              rfl
             refine pure_ (i := 74) (N := some 183) (v := ?_) (a' := ?_) #[true, true, true, true, true, true, true, true, true, true, true, true, true, true, true, true, true, true, true, true, true, true, true, true, true, true, true, true, true, true, true, true, true, true, true, true, true, true, true, true, true, true, true, true, true, true, true, true, true, true, true, true, true, true, true, true, true, true, true, true, true, true, true, true, true, true, true, true, true, true, true, true, true, true, true, false, false, false, false, false, false, false, false, false, false, false, false, false, false, false, false, false, false] rfl rfl (any_of HT_.out (by kernel_rfl)) (fun _ _ _ h => h) (Or.inl ⟨by rfl, ?_⟩) ?_ ?_
             rotate_left
             ·intro w'
              go_simp
              with_reducible rfl
             rotate_left
             ·simp only [Act.put, qsA, qsB, qsC, i64_w, i32_w, qsD, qsE]
              rfl
             refine pure_ (i := 75) (N := some 184) (v := ?_) (a' := ?_) #[true, true, true, true, true, true, true, true, true, true, true, true, true, true, true, true, true, true, true, true, true, true, true, true, true, true, true, true, true, true, true, true, true, true, true, true, true, true, true, true, true, true, true, true, true, true, true, true, true, true, true, true, true, true, true, true, true, true, true, true, true, true, true, true, true, true, true, true, true, true, true, true, true, true, true, true, false, false, false, false, false, false, false, false, false, false, false, false, false, false, false, false, false] rfl rfl (any_of HT_.out (by kernel_rfl)) (fun _ _ _ h => h) (Or.inl ⟨by rfl, ?_⟩) ?_ ?_
             rotate_left
             ·intro w'
              go_simp
              with_reducible rfl
             rotate_left
             ·simp only [Act.put, qsA, qsB, qsC, i64_w, i32_w, qsD, qsE]
              rfl
             refine pure_ (i := 76) (N := some 185) (v := ?_) (a' := ?_) #[true, true, true, true, true, true, true, true, true, true, true, true, true, true, true, true, true, true, true, true, true, true, true, true, true, true, true, true, true, true, true, true, true, true, true, true, true, true, true, true, true, true, true, true, true, true, true, true, true, true, true, true, true, true, true, true, true, true, true, true, true, true, true, true, true, true, true, true, true, true, true, true, true, true, true, true, true, false, false, false, false, false, false, false, false, false, false, false, false, false, false, false, false] rfl rfl (any_of HT_.out (by kernel_rfl)) (fun _ _ _ h => h) (Or.inl ⟨by rfl, ?_⟩) ?_ ?_
             rotate_left
             ·intro w'
              go_simp
              with_reducible rfl
             rotate_left
             ·simp only [Act.put, qsA, qsB, qsC, i64_w, i32_w, qsD, qsE]
              rfl
             refine pure_ (i := 77) (N := some 186) (v := ?_) (a' := ?_) #[true, true, true, true, true, true, true, true, true, true, true, true, true, true, true, true, true, true, true, true, true, true, true, true, true, true, true, true, true, true, true, true, true, true, true, true, true, true, true, true, true, true, true, true, true, true, true, true, true, true, true, true, true, true, true, true, true, true, true, true, true, true, true, true, true, true, true, true, true, true, true, true, true, true, true, true, true, true, false, false, false, false, false, false, false, false, false, false, false, false, false, false, false] rfl rfl (any_of HT_.out (by kernel_rfl)) (fun _ _ _ h => h) (Or.inl ⟨by rfl, ?_⟩) ?_ ?_
             rotate_left
             ·intro w'
              go_simp
              with_reducible rfl
             rotate_left
             ·simp only [Act.put, qsA, qsB, qsC, i64_w, i32_w, qsD, qsE]
              rfl
             refine pure_ (i := 78) (N := some 187) (v := ?_) (a' := ?_) #[true, true, true, true, true, true, true, true, true, true, true, true, true, true, true, true, true, true, true, true, true, true, true, true, true, true, true, true, true, true, true, true, true, true, true, true, true, true, true, true, true, true, true, true, true, true, true, true, true, true, true, true, true, true, true, true, true, true, true, true, true, true, true, true, true, true, true, true, true, true, true, true, true, true, true, true, true, true, true, false, false, false, false, false, false, false, false, false, false, false, false, false, false] rfl rfl (any_of HT_.out (by kernel_rfl)) (fun _ _ _ h => h) (Or.inl ⟨by rfl, ?_⟩) ?_ ?_
             rotate_left
             ·intro w'
              go_simp
              with_reducible rfl
             rotate_left
             ·simp only [Act.put, qsA, qsB, qsC, i64_w, i32_w, qsD, qsE]
              rfl
             refine pure_ (i := 84) (N := some 193) (v := ?_) (a' := ?_) #[true, true, true, true, true, true, true, true, true, true, true, true, true, true, true, true, true, true, true, true, true, true, true, true, true, true, true, true, true, true, true, true, true, true, true, true, true, true, true, true, true, true, true, true, true, true, true, true, true, true, true, true, true, true, true, true, true, true, true, true, true, true, true, true, true, true, true, true, true, true, true, true, true, true, true, true, true, true, true, false, false, false, false, false, true, false, false, false, false, false, false, false, false] rfl rfl (any_of HT_.out (by kernel_rfl)) (fun _ _ _ h => h) (Or.inl ⟨by rfl, ?_⟩) ?_ ?_
             rotate_left
             ·intro w'
              go_simp
              with_reducible rfl
             rotate_left
             ·simp only [Act.put, qsA, qsB, qsC, i64_w, i32_w, qsD, qsE]
              rfl
             refine pure_ (i := 85) (N := some 194) (v := ?_) (a' := ?_) #[true, true, true, true, true, true, true, true, true, true, true, true, true, true, true, true, true, true, true, true, true, true, true, true, true, true, true, true, true, true, true, true, true, true, true, true, true, true, true, true, true, true, true, true, true, true, true, true, true, true, true, true, true, true, true, true, true, true, true, true, true, true, true, true, true, true, true, true, true, true, true, true, true, true, true, true, true, true, true, false, false, false, false, false, true, true, false, false, false, false, false, false, false] rfl rfl (any_of HT_.out (by kernel_rfl)) (fun _ _ _ h => h) (Or.inl ⟨by rfl, ?_⟩) ?_ ?_
             rotate_left
             ·intro w'
              go_simp
              with_reducible rfl
             rotate_left
             ·simp only [Act.put, qsA, qsB, qsC, i64_w, i32_w, qsD, qsE]
              rfl
             refine pure_ (i := 86) (N := some 195) (v := ?_) (a' := ?_) #[true, true, true, true, true, true, true, true, true, true, true, true, true, true, true, true, true, true, true, true, true, true, true, true, true, true, true, true, true, true, true, true, true, true, true, true, true, true, true, true, true, true, true, true, true, true, true, true, true, true, true, true, true, true, true, true, true, true, true, true, true, true, true, true, true, true, true, true, true, true, true, true, true, true, true, true, true, true, true, false, false, false, false, false, true, true, true, false, false, false, false, false, false] rfl rfl (any_of HT_.out (by kernel_rfl)) (fun _ _ _ h => h) (Or.inl ⟨by rfl, ?_⟩) ?_ ?_
             rotate_left
             ·intro w'
              go_simp
              with_reducible rfl
             rotate_left
             ·simp only [Act.put, qsA, qsB, qsC, i64_w, i32_w, qsD, qsE]
              rfl
             refine pure_ (i := 87) (N := some 196) (v := ?_) (a' := ?_) #[true, true, true, true, true, true, true, true, true, true, true, true, true, true, true, true, true, true, true, true, true, true, true, true, true, true, true, true, true, true, true, true, true, true, true, true, true, true, true, true, true, true, true, true, true, true, true, true, true, true, true, true, true, true, true, true, true, true, true, true, true, true, true, true, true, true, true, true, true, true, true, true, true, true, true, true, true, true, true, false, false, false, false, false, true, true, true, true, false, false, false, false, false] rfl rfl (any_of HT_.out (by kernel_rfl)) (fun _ _ _ h => h) (Or.inl ⟨by rfl, ?_⟩) ?_ ?_
             rotate_left
             ·intro w'
              go_simp
              with_reducible rfl
             rotate_left
             ·simp only [Act.put, qsA, qsB, qsC, i64_w, i32_w, qsD, qsE]
              rfl
             refine pure_ (i := 88) (N := some 197) (v := ?_) (a' := ?_) #[true, true, true, true, true, true, true, true, true, true, true, true, true, true, true, true, true, true, true, true, true, true, true, true, true, true, true, true, true, true, true, true, true, true, true, true, true, true, true, true, true, true, true, true, true, true, true, true, true, true, true, true, true, true, true, true, true, true, true, true, true, true, true, true, true, true, true, true, true, true, true, true, true, true, true, true, true, true, true, false, false, false, false, false, true, true, true, true, true, false, false, false, false] rfl rfl (any_of HT_.out (by kernel_rfl)) (fun _ _ _ h => h) (Or.inl ⟨by rfl, ?_⟩) ?_ ?_
             rotate_left
             ·intro w'
              go_simp
              with_reducible rfl
             rotate_left
             ·simp only [Act.put, qsA, qsB, qsC, i64_w, i32_w, qsD, qsE]
              rfl
             refine pure_ (i := 89) (N := some 198) (v := ?_) (a' := ?_) #[true, true, true, true, true, true, true, true, true, true, true, true, true, true, true, true, true, true, true, true, true, true, true, true, true, true, true, true, true, true, true, true, true, true, true, true, true, true, true, true, true, true, true, true, true, true, true, true, true, true, true, true, true, true, true, true, true, true, true, true, true, true, true, true, true, true, true, true, true, true, true, true, true, true, true, true, true, true, true, false, false, false, false, false, true, true, true, true, true, true, false, false, false] rfl rfl (any_of HT_.out (by kernel_rfl)) (fun _ _ _ h => h) (Or.inl ⟨by rfl, ?_⟩) ?_ ?_
             rotate_left
             ·intro w'
              go_simp
              with_reducible rfl
             rotate_left
             ·simp only [Act.put, qsA, qsB, qsC, i64_w, i32_w, qsD, qsE]
              rfl
             refine pure_ (i := 90) (N := some 199) (v := ?_) (a' := ?_) #[true, true, true, true, true, true, true, true, true, true, true, true, true, true, true, true, true, true, true, true, true, true, true, true, true, true, true, true, true, true, true, true, true, true, true, true, true, true, true, true, true, true, true, true, true, true, true, true, true, true, true, true, true, true, true, true, true, true, true, true, true, true, true, true, true, true, true, true, true, true, true, true, true, true, true, true, true, true, true, false, false, false, false, false, true, true, true, true, true, true, true, false, false] rfl rfl (any_of HT_.out (by kernel_rfl)) (fun _ _ _ h => h) (Or.inl ⟨by rfl, ?_⟩) ?_ ?_
             rotate_left
             ·intro w'
              go_simp
              with_reducible rfl
             rotate_left
             ·simp only [Act.put, qsA, qsB, qsC, i64_w, i32_w, qsD, qsE]
              rfl
             refine take_ (i := 79) (N := some 188) (v := ?_) (a' := ?_) #[true, true, true, true, true, true, true, true, true, true, true, true, true, true, true, true, true, true, true, true, true, true, true, true, true, true, true, true, true, true, true, true, true, true, true, true, true, true, true, true, true, true, true, true, true, true, true, true, true, true, true, true, true, true, true, true, true, true, true, true, true, true, true, true, true, true, true, true, true, true, true, true, true, true, true, true, true, true, true, true, false, false, false, false, true, true, true, true, true, true, true, false, false] rfl rfl (take_ofW HT_.out HW_.out (by kernel_rfl)) (fun _ _ _ h => h) (Or.inl ⟨by rfl, ?_⟩) hHeld ?_ ?_
             rotate_left
             ·rintro w' ⟨s0, s1, s2, s3, s4, s5, s6, s7, s8⟩
              go_simp
              with_reducible rfl
             rotate_left
             ·simp only [Act.put, qsA, qsB, qsC, i64_w, i32_w, qsD, qsE]
              rfl
             refine pure_ (i := 80) (N := some 189) (v := ?_) (a' := ?_) #[true, true, true, true, true, true, true, true, true, true, true, true, true, true, true, true, true, true, true, true, true, true, true, true, true, true, true, true, true, true, true, true, true, true, true, true, true, true, true, true, true, true, true, true, true, true, true, true, true, true, true, true, true, true, true, true, true, true, true, true, true, true, true, true, true, true, true, true, true, true, true, true, true, true, true, true, true, true, true, true, true, false, false, false, true, true, true, true, true, true, true, false, false] rfl rfl (any_of HT_.out (by kernel_rfl)) (fun _ _ _ h => h) (Or.inl ⟨by rfl, ?_⟩) ?_ ?_
             rotate_left
             ·intro w'
              go_simp
              with_reducible rfl
             rotate_left
             ·simp only [Act.put, qsA, qsB, qsC, i64_w, i32_w, qsD, qsE]
              rfl
             refine pure_ (i := 81) (N := some 190) (v := ?_) (a' := ?_) #[true, true, true, true, true, true, true, true, true, true, true, true, true, true, true, true, true, true, true, true, true, true, true, true, true, true, true, true, true, true, true, true, true, true, true, true, true, true, true, true, true, true, true, true, true, true, true, true, true, true, true, true, true, true, true, true, true, true, true, true, true, true, true, true, true, true, true, true, true, true, true, true, true, true, true, true, true, true, true, true, true, true, false, false, true, true, true, true, true, true, true, false, false] rfl rfl (any_of HT_.out (by kernel_rfl)) (fun _ _ _ h => h) (Or.inl ⟨by rfl, ?_⟩) ?_ ?_
             rotate_left
             ·intro w'
              go_simp
              with_reducible rfl
             rotate_left
             ·simp only [Act.put, qsA, qsB, qsC, i64_w, i32_w, qsD, qsE]
              rfl
             refine pure_ (i := 82) (N := some 191) (v := ?_) (a' := ?_) #[true, true, true, true, true, true, true, true, true, true, true, true, true, true, true, true, true, true, true, true, true, true, true, true, true, true, true, true, true, true, true, true, true, true, true, true, true, true, true, true, true, true, true, true, true, true, true, true, true, true, true, true, true, true, true, true, true, true, true, true, true, true, true, true, true, true, true, true, true, true, true, true, true, true, true, true, true, true, true, true, true, true, true, false, true, true, true, true, true, true, true, false, false] rfl rfl (any_of HT_.out (by kernel_rfl)) (fun _ _ _ h => h) (Or.inl ⟨by rfl, ?_⟩) ?_ ?_
             rotate_left
             ·intro w'
              go_simp
              with_reducible rfl
             rotate_left
             ·simp only [Act.put, qsA, qsB, qsC, i64_w, i32_w, qsD, qsE]
              rfl
             refine pure_ (i := 83) (N := some 192) (v := ?_) (a' := ?_) #[true, true, true, true, true, true, true, true, true, true, true, true, true, true, true, true, true, true, true, true, true, true, true, true, true, true, true, true, true, true, true, true, true, true, true, true, true, true, true, true, true, true, true, true, true, true, true, true, true, true, true, true, true, true, true, true, true, true, true, true, true, true, true, true, true, true, true, true, true, true, true, true, true, true, true, true, true, true, true, true, true, true, true, true, true, true, true, true, true, true, true, false, false] rfl rfl (any_of HT_.out (by kernel_rfl)) (fun _ _ _ h => h) (Or.inl ⟨by rfl, ?_⟩) ?_ ?_
             rotate_left
             ·intro w'
              go_simp
              with_reducible rfl
             rotate_left
             ·simp only [Act.put, qsA, qsB, qsC, i64_w, i32_w, qsD, qsE]
              rfl
             refine pure_ (i := 91) (N := some 200) (v := ?_) (a' := ?_) #[true, true, true, true, true, true, true, true, true, true, true, true, true, true, true, true, true, true, true, true, true, true, true, true, true, true, true, true, true, true, true, true, true, true, true, true, true, true, true, true, true, true, true, true, true, true, true, true, true, true, true, true, true, true, true, true, true, true, true, true, true, true, true, true, true, true, true, true, true, true, true, true, true, true, true, true, true, true, true, true, true, true, true, true, true, true, true, true, true, true, true, true, false] rfl rfl (any_of HT_.out (by kernel_rfl)) (fun _ _ _ h => h) (Or.inl ⟨by rfl, ?_⟩) ?_ ?_
             rotate_left
             ·intro w'
              go_simp
              with_reducible rfl
             rotate_left
             ·simp only [Act.put, qsA, qsB, qsC, i64_w, i32_w, qsD, qsE]
              rfl
             refine pure_ (i := 92) (N := some 201) (v := ?_) (a' := ?_) #[true, true, true, true, true, true, true, true, true, true, true, true, true, true, true, true, true, true, true, true, true, true, true, true, true, true, true, true, true, true, true, true, true, true, true, true, true, true, true, true, true, true, true, true, true, true, true, true, true, true, true, true, true, true, true, true, true, true, true, true, true, true, true, true, true, true, true, true, true, true, true, true, true, true, true, true, true, true, true, true, true, true, true, true, true, true, true, true, true, true, true, true, true] rfl rfl (any_of HT_.out (by kernel_rfl)) (fun _ _ _ h => h) (Or.inl ⟨by rfl, ?_⟩) ?_ ?_
             rotate_left
             ·intro w'
              go_simp
              with_reducible rfl
             rotate_left
             ·simp only [Act.put, qsA, qsB, qsC, i64_w, i32_w, qsD, qsE]
              rfl
             refine done_ (done_of HT_.out (by kernel_rfl)) ?_
             have hnb94 := NB184_173.out
             have hnc94 := NB173_184.out
             have hcz95_0 : w93.cell? ⟨gb184, 0, none⟩ = some (.string ((rd_T39 l0_0 x9_3).f0)) := (blk_cell BK184.out 0).trans rfl
             have hcz95_1 : w93.cell? ⟨gb184, 1, none⟩ = some (.bool ((rd_T39 l0_0 x9_3).f1)) := (blk_cell BK184.out 1).trans rfl
             have hcz95_2 : w93.cell? ⟨gb184, 2, none⟩ = some (.slice A183_2 ((rd_T39 l0_0 x9_3).f2).length c183_2) := (blk_cell BK184.out 2).trans rfl
             have hcz95_3 : w93.cell? ⟨gb184, 3, none⟩ = some (.int .i64 ((rd_T39 l0_0 x9_3).f3)) := (blk_cell BK184.out 3).trans rfl
             have hcz95_4 : w93.cell? ⟨gb184, 4, none⟩ = some (.int .i64 ((rd_T39 l0_0 x9_3).f4)) := (blk_cell BK184.out 4).trans rfl
             have hcz95_5 : w93.cell? ⟨gb184, 5, none⟩ = some (.int .i64 ((rd_T39 l0_0 x9_3).f5)) := (blk_cell BK184.out 5).trans rfl
             have hcz95_6 : w93.cell? ⟨gb184, 6, none⟩ = some (.string ((rd_T39 l0_0 x9_3).f6)) := (blk_cell BK184.out 6).trans rfl
             have hcz95_7 : w93.cell? ⟨gb184, 7, none⟩ = some (.int .i64 ((rd_T39 l0_0 x9_3).f7)) := (blk_cell BK184.out 7).trans rfl
             have hcz95_8 : w93.cell? ⟨gb184, 8, none⟩ = some (.int .i64 ((rd_T39 l0_0 x9_3).f8)) := (blk_cell BK184.out 8).trans rfl
             have hfz95_0 := blk_frozen BK184.out 0
             have hfz95_1 := blk_frozen BK184.out 1
             have hfz95_2 := blk_frozen BK184.out 2
             have hfz95_3 := blk_frozen BK184.out 3
             have hfz95_4 := blk_frozen BK184.out 4
             have hfz95_5 := blk_frozen BK184.out 5
             have hfz95_6 := blk_frozen BK184.out 6
             have hfz95_7 := blk_frozen BK184.out 7
             have hfz95_8 := blk_frozen BK184.out 8
             try go_wp2
             go_roundg kj40
             case measure => have := HJ6.out; have := HJ22.out; have := HK3.out; have := HJ40.out; omega
             case rel => exact ⟨(wrap64 ((ji61) + (((rd_T39 l0_0 x9_3).f6).size : Int))), (wrap64 ((wrap64 ((ji85) + (((rd_T39 l0_0 x9_3).f0).size : Int))) + 26)), (wrap64 (x9_3 + 1)), (by first | rfl | (simp; done) | (simp only [← hji61] <;> (first | rfl | simp)) | (simp [*]; done)), (by first | rfl | (simp; done) | (simp only [← hji85] <;> (first | rfl | simp)) | (simp [*]; done)), (by first | rfl | (simp; done) | (simp [*]; done)), H', ⟨by have := HJ6.out; have := HJ22.out; have := HK3.out; have := HJ40.out; omega⟩, ⟨by (with_reducible repeat (first | refine qkA ?_ _ | refine qkB ?_ | refine qkC ?_ _)); exact BK173.out⟩, ⟨by repeat (first | (with_reducible first | exact HB.out | apply qbA | apply qbB | apply qbC | refine below_set ?_ GE173.out | refine below_set ?_ GE184.out) | exact HB.out)⟩⟩

end Go.Proofs.YtneogampbohfnaaDoor.ZP
