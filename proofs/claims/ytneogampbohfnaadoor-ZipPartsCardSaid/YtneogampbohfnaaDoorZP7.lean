-- Written by a program of this session out of the translation (a changed copy of the kit's printer).
import Derived.Test.YtneogampbohfnaaDoorZP0
import Derived.Test.YtneogampbohfnaaDoorZP4
import Derived.Test.YtneogampbohfnaaDoorZP6
namespace Go.Proofs.YtneogampbohfnaaDoor.ZP
open Go.Proofs.YtneogampbohfnaaDoor.ZB (S39 z39 k39 k39_open k39_openM k39_mk k39_mkM rd_T39 at_T39)
open Go.RowKit Go.Proofs.YtneogampbohfnaaDoorW.PrintWords Go.Proofs.YtneogampbohfnaaDoorW.PrintLast Go.Proofs.YtneogampbohfnaaDoorW.PrintMore
attribute [local go_sem] max2_int min2_int max_two min_two max_three min_three max_four min_four   -- for this text's walks alone
set_option linter.unusedVariables false
set_option linter.unusedSimpArgs false

/-! ### portagelaw13_awake: function 25 -/
def portagelaw13_awake.f (k : Nat)  : Option (Bool) := (portagelaw13_small.f k (⟨#[97]⟩ : ByteArray) 0 1 (⟨#[104, 105]⟩ : ByteArray)).bind fun bt137 => ((some (([(⟨bt137.1, bt137.2.1, bt137.2.2.1, bt137.2.2.2.1, bt137.2.2.2.2.1, bt137.2.2.2.2.2.1, bt137.2.2.2.2.2.2.1, bt137.2.2.2.2.2.2.2.1, bt137.2.2.2.2.2.2.2.2⟩ : S39)] : List (S39)) : List (S39))).bind fun y148 => ((zipput_Put.f y148).bind fun bt152 => ((zipput_Put.f ([] : List (S39))).bind fun bt154 => (if 0 < (y148.length : Int) then (if y148.length < 1353245080339 then ((some (y148 ++ [(⟨(rd_T39 y148 0).f0, (rd_T39 y148 0).f1, (rd_T39 y148 0).f2, (rd_T39 y148 0).f3, (rd_T39 y148 0).f4, (rd_T39 y148 0).f5, (rd_T39 y148 0).f6, (rd_T39 y148 0).f7, (rd_T39 y148 0).f8⟩ : S39)] : List (S39))).bind fun y157 => ((zipput_Put.f y157).bind fun bt160 => (if (bt152.1.size : Int) = 154 then (if 0 ≤ 6 then (if 6 ≤ (bt152.1.size : Int) then (if (bt152.1.extract 0 6).toList = ([80, 75, 3, 4, 20, 0] : List UInt8) then ((portagelaw0_Num.f bt152.2).bind fun t162 => (if t162 = 0 then (if 1 ≤ (y157.length : Int) then ((zipput_Size.f (y157.take 1)).bind fun t168 => (if t168 = (bt152.1.size : Int) then (if bt154.1.toList = ([80, 75, 5, 6, 0, 0, 0, 0, 0, 0, 0, 0, 0, 0, 0, 0, 0, 0, 0, 0, 0, 0] : List UInt8) then ((portagelaw0_Num.f bt154.2).bind fun t169 => (if t169 = 0 then ((portagelaw0_Num.f bt160.2).bind fun t170 => (if t170 = 1300 then ((zipput_May.f ([] : List (S39))).bind fun t171 => (if t171 = true then ((zipput_May.f y157).bind fun t172 => (some (!t172))) else (none))) else (none))) else (none))) else (none)) else (none))) else (none)) else (none))) else (none)) else (none)) else (none)) else (none)))) else (none)) else (none)))))
theorem portagelaw13_awake.mono : ∀ k, LeO (portagelaw13_awake.f k ) (portagelaw13_awake.f (k + 1) ) := by
 intro  k
 unfold portagelaw13_awake.f
 repeat' first
   | (with_reducible exact portagelaw13_small.mono _ _ _ _ _)
   | (with_reducible exact LeO.refl _)
   | (with_reducible exact LeO.none _)
   | (with_reducible refine LeO.ite ?_ ?_)
   | (with_reducible refine LeO.bind ?_ (fun _ => ?_))
   | exact portagelaw13_small.mono _ _ _ _ _
   | exact LeO.none _
   | refine LeO.ite ?_ ?_
   | refine LeO.bind ?_ (fun _ => ?_)
def portagelaw13_awake.T4 : Bool × List (List Nat × List Nat) := (true, [([], []), ([0], [0]), ([], []), ([2], [2]), ([3], [3]), ([4], [4]), ([5], [5]), ([1, 6], [1, 6]), ([0, 1, 2, 3, 4, 5, 6, 7], []), ([8, 7, 7, 0, 1, 2, 3, 4, 5, 6, 7], [7, 8])])
def portagelaw13_awake.B4 : List Nat := [0, 1, 0, 4, 12, 28, 60, 127, 255, 511]
theorem portagelaw13_awake.tab4 : rtab .any (opsOf Tryd.f25 4) = portagelaw13_awake.T4 := by kernel_rfl
theorem portagelaw13_awake.bits4 : waitsOk portagelaw13_awake.T4.2 portagelaw13_awake.B4 = true := by kernel_rfl
set_option maxHeartbeats 8000000 in
set_option maxRecDepth 100000 in
theorem portagelaw13_awake.calls (k : Nat)  (r : Bool) (w : World) (h : portagelaw13_awake.f k  = some r) :
  Calls Tryd.prog 25 #[] w fun e w' => e = .returned (.bool r) ∧ Below w.heap.size w w' := by
 have hu24 := Tryd.underlying24
 have hu39 := Tryd.underlying39
 have HB := qas (Below.refl w.heap.size w)
 have H : ((portagelaw13_small.f k (⟨#[97]⟩ : ByteArray) 0 1 (⟨#[104, 105]⟩ : ByteArray)).bind fun bt137 => ((some (([(⟨bt137.1, bt137.2.1, bt137.2.2.1, bt137.2.2.2.1, bt137.2.2.2.2.1, bt137.2.2.2.2.2.1, bt137.2.2.2.2.2.2.1, bt137.2.2.2.2.2.2.2.1, bt137.2.2.2.2.2.2.2.2⟩ : S39)] : List (S39)) : List (S39))).bind fun y148 => ((zipput_Put.f y148).bind fun bt152 => ((zipput_Put.f ([] : List (S39))).bind fun bt154 => (if 0 < (y148.length : Int) then (if y148.length < 1353245080339 then ((some (y148 ++ [(⟨(rd_T39 y148 0).f0, (rd_T39 y148 0).f1, (rd_T39 y148 0).f2, (rd_T39 y148 0).f3, (rd_T39 y148 0).f4, (rd_T39 y148 0).f5, (rd_T39 y148 0).f6, (rd_T39 y148 0).f7, (rd_T39 y148 0).f8⟩ : S39)] : List (S39))).bind fun y157 => ((zipput_Put.f y157).bind fun bt160 => (if (bt152.1.size : Int) = 154 then (if 0 ≤ 6 then (if 6 ≤ (bt152.1.size : Int) then (if (bt152.1.extract 0 6).toList = ([80, 75, 3, 4, 20, 0] : List UInt8) then ((portagelaw0_Num.f bt152.2).bind fun t162 => (if t162 = 0 then (if 1 ≤ (y157.length : Int) then ((zipput_Size.f (y157.take 1)).bind fun t168 => (if t168 = (bt152.1.size : Int) then (if bt154.1.toList = ([80, 75, 5, 6, 0, 0, 0, 0, 0, 0, 0, 0, 0, 0, 0, 0, 0, 0, 0, 0, 0, 0] : List UInt8) then ((portagelaw0_Num.f bt154.2).bind fun t169 => (if t169 = 0 then ((portagelaw0_Num.f bt160.2).bind fun t170 => (if t170 = 1300 then ((zipput_May.f ([] : List (S39))).bind fun t171 => (if t171 = true then ((zipput_May.f y157).bind fun t172 => (some (!t172))) else (none))) else (none))) else (none))) else (none)) else (none))) else (none)) else (none))) else (none)) else (none)) else (none)) else (none)))) else (none)) else (none)))))) = some r := h
 clear h
 replace H := Option.bind_eq_some_iff.mp H
 obtain ⟨⟨t137, t138, t139, t142, t143, t144, t145, t146, t147⟩, A10, H⟩ := H
 replace H : ((some (([(⟨t137, t138, t139, t142, t143, t144, t145, t146, t147⟩ : S39)] : List (S39)) : List (S39))).bind fun y148 => ((zipput_Put.f y148).bind fun bt152 => ((zipput_Put.f ([] : List (S39))).bind fun bt154 => (if 0 < (y148.length : Int) then (if y148.length < 1353245080339 then ((some (y148 ++ [(⟨(rd_T39 y148 0).f0, (rd_T39 y148 0).f1, (rd_T39 y148 0).f2, (rd_T39 y148 0).f3, (rd_T39 y148 0).f4, (rd_T39 y148 0).f5, (rd_T39 y148 0).f6, (rd_T39 y148 0).f7, (rd_T39 y148 0).f8⟩ : S39)] : List (S39))).bind fun y157 => ((zipput_Put.f y157).bind fun bt160 => (if (bt152.1.size : Int) = 154 then (if 0 ≤ 6 then (if 6 ≤ (bt152.1.size : Int) then (if (bt152.1.extract 0 6).toList = ([80, 75, 3, 4, 20, 0] : List UInt8) then ((portagelaw0_Num.f bt152.2).bind fun t162 => (if t162 = 0 then (if 1 ≤ (y157.length : Int) then ((zipput_Size.f (y157.take 1)).bind fun t168 => (if t168 = (bt152.1.size : Int) then (if bt154.1.toList = ([80, 75, 5, 6, 0, 0, 0, 0, 0, 0, 0, 0, 0, 0, 0, 0, 0, 0, 0, 0, 0, 0] : List UInt8) then ((portagelaw0_Num.f bt154.2).bind fun t169 => (if t169 = 0 then ((portagelaw0_Num.f bt160.2).bind fun t170 => (if t170 = 1300 then ((zipput_May.f ([] : List (S39))).bind fun t171 => (if t171 = true then ((zipput_May.f y157).bind fun t172 => (some (!t172))) else (none))) else (none))) else (none))) else (none)) else (none))) else (none)) else (none))) else (none)) else (none)) else (none)) else (none)))) else (none)) else (none))))) = some r := H
 have A1 := qas A10
 clear A10
 obtain ⟨y148, hy148⟩ : ∃ y_ : List (S39), y_ = (([(⟨t137, t138, t139, t142, t143, t144, t145, t146, t147⟩ : S39)] : List (S39))) := ⟨_, rfl⟩
 replace H : ((zipput_Put.f y148).bind fun bt152 => ((zipput_Put.f ([] : List (S39))).bind fun bt154 => (if 0 < (y148.length : Int) then (if y148.length < 1353245080339 then ((some (y148 ++ [(⟨(rd_T39 y148 0).f0, (rd_T39 y148 0).f1, (rd_T39 y148 0).f2, (rd_T39 y148 0).f3, (rd_T39 y148 0).f4, (rd_T39 y148 0).f5, (rd_T39 y148 0).f6, (rd_T39 y148 0).f7, (rd_T39 y148 0).f8⟩ : S39)] : List (S39))).bind fun y157 => ((zipput_Put.f y157).bind fun bt160 => (if (bt152.1.size : Int) = 154 then (if 0 ≤ 6 then (if 6 ≤ (bt152.1.size : Int) then (if (bt152.1.extract 0 6).toList = ([80, 75, 3, 4, 20, 0] : List UInt8) then ((portagelaw0_Num.f bt152.2).bind fun t162 => (if t162 = 0 then (if 1 ≤ (y157.length : Int) then ((zipput_Size.f (y157.take 1)).bind fun t168 => (if t168 = (bt152.1.size : Int) then (if bt154.1.toList = ([80, 75, 5, 6, 0, 0, 0, 0, 0, 0, 0, 0, 0, 0, 0, 0, 0, 0, 0, 0, 0, 0] : List UInt8) then ((portagelaw0_Num.f bt154.2).bind fun t169 => (if t169 = 0 then ((portagelaw0_Num.f bt160.2).bind fun t170 => (if t170 = 1300 then ((zipput_May.f ([] : List (S39))).bind fun t171 => (if t171 = true then ((zipput_May.f y157).bind fun t172 => (some (!t172))) else (none))) else (none))) else (none))) else (none)) else (none))) else (none)) else (none))) else (none)) else (none)) else (none)) else (none)))) else (none)) else (none)))) = some r := by first | (rw [hy148]; with_reducible exact H) | (have H2_ := (Option.bind_some _ _).symm.trans H; rw [hy148]; with_reducible exact H2_) | (have H2_ := (Option.bind_some _ _).symm.trans H; with_reducible exact H2_) | with_reducible exact H | (rw [hy148]; exact H) | exact H
 have Ny148 := qas hy148
 clear hy148
 replace H := Option.bind_eq_some_iff.mp H
 obtain ⟨⟨t152, t153⟩, A20, H⟩ := H
 replace H : ((zipput_Put.f ([] : List (S39))).bind fun bt154 => (if 0 < (y148.length : Int) then (if y148.length < 1353245080339 then ((some (y148 ++ [(⟨(rd_T39 y148 0).f0, (rd_T39 y148 0).f1, (rd_T39 y148 0).f2, (rd_T39 y148 0).f3, (rd_T39 y148 0).f4, (rd_T39 y148 0).f5, (rd_T39 y148 0).f6, (rd_T39 y148 0).f7, (rd_T39 y148 0).f8⟩ : S39)] : List (S39))).bind fun y157 => ((zipput_Put.f y157).bind fun bt160 => (if (t152.size : Int) = 154 then (if 0 ≤ 6 then (if 6 ≤ (t152.size : Int) then (if (t152.extract 0 6).toList = ([80, 75, 3, 4, 20, 0] : List UInt8) then ((portagelaw0_Num.f t153).bind fun t162 => (if t162 = 0 then (if 1 ≤ (y157.length : Int) then ((zipput_Size.f (y157.take 1)).bind fun t168 => (if t168 = (t152.size : Int) then (if bt154.1.toList = ([80, 75, 5, 6, 0, 0, 0, 0, 0, 0, 0, 0, 0, 0, 0, 0, 0, 0, 0, 0, 0, 0] : List UInt8) then ((portagelaw0_Num.f bt154.2).bind fun t169 => (if t169 = 0 then ((portagelaw0_Num.f bt160.2).bind fun t170 => (if t170 = 1300 then ((zipput_May.f ([] : List (S39))).bind fun t171 => (if t171 = true then ((zipput_May.f y157).bind fun t172 => (some (!t172))) else (none))) else (none))) else (none))) else (none)) else (none))) else (none)) else (none))) else (none)) else (none)) else (none)) else (none)))) else (none)) else (none))) = some r := H
 have A2 := qas A20
 clear A20
 replace H := Option.bind_eq_some_iff.mp H
 obtain ⟨⟨t154, t155⟩, A30, H⟩ := H
 replace H : (if 0 < (y148.length : Int) then (if y148.length < 1353245080339 then ((some (y148 ++ [(⟨(rd_T39 y148 0).f0, (rd_T39 y148 0).f1, (rd_T39 y148 0).f2, (rd_T39 y148 0).f3, (rd_T39 y148 0).f4, (rd_T39 y148 0).f5, (rd_T39 y148 0).f6, (rd_T39 y148 0).f7, (rd_T39 y148 0).f8⟩ : S39)] : List (S39))).bind fun y157 => ((zipput_Put.f y157).bind fun bt160 => (if (t152.size : Int) = 154 then (if 0 ≤ 6 then (if 6 ≤ (t152.size : Int) then (if (t152.extract 0 6).toList = ([80, 75, 3, 4, 20, 0] : List UInt8) then ((portagelaw0_Num.f t153).bind fun t162 => (if t162 = 0 then (if 1 ≤ (y157.length : Int) then ((zipput_Size.f (y157.take 1)).bind fun t168 => (if t168 = (t152.size : Int) then (if t154.toList = ([80, 75, 5, 6, 0, 0, 0, 0, 0, 0, 0, 0, 0, 0, 0, 0, 0, 0, 0, 0, 0, 0] : List UInt8) then ((portagelaw0_Num.f t155).bind fun t169 => (if t169 = 0 then ((portagelaw0_Num.f bt160.2).bind fun t170 => (if t170 = 1300 then ((zipput_May.f ([] : List (S39))).bind fun t171 => (if t171 = true then ((zipput_May.f y157).bind fun t172 => (some (!t172))) else (none))) else (none))) else (none))) else (none)) else (none))) else (none)) else (none))) else (none)) else (none)) else (none)) else (none)))) else (none)) else (none)) = some r := H
 have A3 := qas A30
 clear A30
 by_cases c4 : 0 < (y148.length : Int)
 rotate_left
 ·rw [if_neg c4] at H
  exact absurd H (by simp)
 rw [if_pos c4] at H
 have c4b0 : decide (0 < (y148.length : Int)) = true := decide_eq_true c4
 have c4b1 : decide (0 < y148.length) = true := decide_eq_true (by omega)
 clear c4
 by_cases c5 : y148.length < 1353245080339
 rotate_left
 ·rw [if_neg c5] at H
  exact absurd H (by simp)
 rw [if_pos c5] at H
 have LMc5 := qas c5
 clear c5
 obtain ⟨y157, hy157⟩ : ∃ y_ : List (S39), y_ = (y148 ++ [(⟨(rd_T39 y148 0).f0, (rd_T39 y148 0).f1, (rd_T39 y148 0).f2, (rd_T39 y148 0).f3, (rd_T39 y148 0).f4, (rd_T39 y148 0).f5, (rd_T39 y148 0).f6, (rd_T39 y148 0).f7, (rd_T39 y148 0).f8⟩ : S39)]) := ⟨_, rfl⟩
 replace H : ((zipput_Put.f y157).bind fun bt160 => (if (t152.size : Int) = 154 then (if 0 ≤ 6 then (if 6 ≤ (t152.size : Int) then (if (t152.extract 0 6).toList = ([80, 75, 3, 4, 20, 0] : List UInt8) then ((portagelaw0_Num.f t153).bind fun t162 => (if t162 = 0 then (if 1 ≤ (y157.length : Int) then ((zipput_Size.f (y157.take 1)).bind fun t168 => (if t168 = (t152.size : Int) then (if t154.toList = ([80, 75, 5, 6, 0, 0, 0, 0, 0, 0, 0, 0, 0, 0, 0, 0, 0, 0, 0, 0, 0, 0] : List UInt8) then ((portagelaw0_Num.f t155).bind fun t169 => (if t169 = 0 then ((portagelaw0_Num.f bt160.2).bind fun t170 => (if t170 = 1300 then ((zipput_May.f ([] : List (S39))).bind fun t171 => (if t171 = true then ((zipput_May.f y157).bind fun t172 => (some (!t172))) else (none))) else (none))) else (none))) else (none)) else (none))) else (none)) else (none))) else (none)) else (none)) else (none)) else (none))) = some r := by first | (rw [hy157]; with_reducible exact H) | (have H2_ := (Option.bind_some _ _).symm.trans H; rw [hy157]; with_reducible exact H2_) | (have H2_ := (Option.bind_some _ _).symm.trans H; with_reducible exact H2_) | with_reducible exact H | (rw [hy157]; exact H) | exact H
 have Ny157 := qas hy157
 clear hy157
 replace H := Option.bind_eq_some_iff.mp H
 obtain ⟨⟨t160, t161⟩, A60, H⟩ := H
 replace H : (if (t152.size : Int) = 154 then (if 0 ≤ 6 then (if 6 ≤ (t152.size : Int) then (if (t152.extract 0 6).toList = ([80, 75, 3, 4, 20, 0] : List UInt8) then ((portagelaw0_Num.f t153).bind fun t162 => (if t162 = 0 then (if 1 ≤ (y157.length : Int) then ((zipput_Size.f (y157.take 1)).bind fun t168 => (if t168 = (t152.size : Int) then (if t154.toList = ([80, 75, 5, 6, 0, 0, 0, 0, 0, 0, 0, 0, 0, 0, 0, 0, 0, 0, 0, 0, 0, 0] : List UInt8) then ((portagelaw0_Num.f t155).bind fun t169 => (if t169 = 0 then ((portagelaw0_Num.f t161).bind fun t170 => (if t170 = 1300 then ((zipput_May.f ([] : List (S39))).bind fun t171 => (if t171 = true then ((zipput_May.f y157).bind fun t172 => (some (!t172))) else (none))) else (none))) else (none))) else (none)) else (none))) else (none)) else (none))) else (none)) else (none)) else (none)) else (none)) = some r := H
 have A6 := qas A60
 clear A60
 by_cases c7 : (t152.size : Int) = 154
 rotate_left
 ·rw [if_neg c7] at H
  exact absurd H (by simp)
 rw [if_pos c7] at H
 have c7b0 : ((t152.size : Int) == 154) = true := beq_iff_eq.mpr c7
 have c7b1 : ((t152.size : Int) != 154) = false := bne_eq_false_iff_eq.mpr c7
 clear c7
 by_cases c8 : 0 ≤ 6
 rotate_left
 ·rw [if_neg c8] at H
  exact absurd H (by simp)
 rw [if_pos c8] at H
 have c8b0 := eq_true c8
 have c8b1 : decide (0 ≤ 6) = true := decide_eq_true c8
 clear c8
 by_cases c9 : 6 ≤ (t152.size : Int)
 rotate_left
 ·rw [if_neg c9] at H
  exact absurd H (by simp)
 rw [if_pos c9] at H
 have c9b0 := eq_true c9
 have c9b1 : decide (6 ≤ (t152.size : Int)) = true := decide_eq_true c9
 clear c9
 by_cases c10 : (t152.extract 0 6).toList = ([80, 75, 3, 4, 20, 0] : List UInt8)
 rotate_left
 ·rw [if_neg c10] at H
  exact absurd H (by simp)
 rw [if_pos c10] at H
 have c10b0 : ((t152.extract 0 6).toList == ([80, 75, 3, 4, 20, 0] : List UInt8)) = true := beq_iff_eq.mpr c10
 have c10b1 : ((t152.extract 0 6).toList != ([80, 75, 3, 4, 20, 0] : List UInt8)) = false := bne_eq_false_iff_eq.mpr c10
 clear c10
 replace H := Option.bind_eq_some_iff.mp H
 obtain ⟨t162, A110, H⟩ := H
 replace H : (if t162 = 0 then (if 1 ≤ (y157.length : Int) then ((zipput_Size.f (y157.take 1)).bind fun t168 => (if t168 = (t152.size : Int) then (if t154.toList = ([80, 75, 5, 6, 0, 0, 0, 0, 0, 0, 0, 0, 0, 0, 0, 0, 0, 0, 0, 0, 0, 0] : List UInt8) then ((portagelaw0_Num.f t155).bind fun t169 => (if t169 = 0 then ((portagelaw0_Num.f t161).bind fun t170 => (if t170 = 1300 then ((zipput_May.f ([] : List (S39))).bind fun t171 => (if t171 = true then ((zipput_May.f y157).bind fun t172 => (some (!t172))) else (none))) else (none))) else (none))) else (none)) else (none))) else (none)) else (none)) = some r := H
 have A11 := qas A110
 clear A110
 by_cases c12 : t162 = 0
 rotate_left
 ·rw [if_neg c12] at H
  exact absurd H (by simp)
 rw [if_pos c12] at H
 have c12b0 : (t162 == 0) = true := beq_iff_eq.mpr c12
 have c12b1 : (t162 != 0) = false := bne_eq_false_iff_eq.mpr c12
 clear c12
 by_cases c13 : 1 ≤ (y157.length : Int)
 rotate_left
 ·rw [if_neg c13] at H
  exact absurd H (by simp)
 rw [if_pos c13] at H
 have c13b0 := eq_true c13
 have c13b1 : decide (1 ≤ (y157.length : Int)) = true := decide_eq_true c13
 clear c13
 obtain ⟨y163, hy163⟩ : ∃ y_ : List (S39), y_ = (y157.take 1) := ⟨_, rfl⟩
 replace H : ((zipput_Size.f y163).bind fun t168 => (if t168 = (t152.size : Int) then (if t154.toList = ([80, 75, 5, 6, 0, 0, 0, 0, 0, 0, 0, 0, 0, 0, 0, 0, 0, 0, 0, 0, 0, 0] : List UInt8) then ((portagelaw0_Num.f t155).bind fun t169 => (if t169 = 0 then ((portagelaw0_Num.f t161).bind fun t170 => (if t170 = 1300 then ((zipput_May.f ([] : List (S39))).bind fun t171 => (if t171 = true then ((zipput_May.f y157).bind fun t172 => (some (!t172))) else (none))) else (none))) else (none))) else (none)) else (none))) = some r := by first | (rw [hy163]; with_reducible exact H) | (have H2_ := (Option.bind_some _ _).symm.trans H; rw [hy163]; with_reducible exact H2_) | (have H2_ := (Option.bind_some _ _).symm.trans H; with_reducible exact H2_) | with_reducible exact H | (rw [hy163]; exact H) | exact H
 have Ny163 := qas hy163
 clear hy163
 replace H := Option.bind_eq_some_iff.mp H
 obtain ⟨t168, A140, H⟩ := H
 replace H : (if t168 = (t152.size : Int) then (if t154.toList = ([80, 75, 5, 6, 0, 0, 0, 0, 0, 0, 0, 0, 0, 0, 0, 0, 0, 0, 0, 0, 0, 0] : List UInt8) then ((portagelaw0_Num.f t155).bind fun t169 => (if t169 = 0 then ((portagelaw0_Num.f t161).bind fun t170 => (if t170 = 1300 then ((zipput_May.f ([] : List (S39))).bind fun t171 => (if t171 = true then ((zipput_May.f y157).bind fun t172 => (some (!t172))) else (none))) else (none))) else (none))) else (none)) else (none)) = some r := H
 have A14 := qas A140
 clear A140
 by_cases c15 : t168 = (t152.size : Int)
 rotate_left
 ·rw [if_neg c15] at H
  exact absurd H (by simp)
 rw [if_pos c15] at H
 have c15b0 : (t168 == (t152.size : Int)) = true := beq_iff_eq.mpr c15
 have c15b1 : (t168 != (t152.size : Int)) = false := bne_eq_false_iff_eq.mpr c15
 clear c15
 by_cases c16 : t154.toList = ([80, 75, 5, 6, 0, 0, 0, 0, 0, 0, 0, 0, 0, 0, 0, 0, 0, 0, 0, 0, 0, 0] : List UInt8)
 rotate_left
 ·rw [if_neg c16] at H
  exact absurd H (by simp)
 rw [if_pos c16] at H
 have c16b0 : (t154.toList == ([80, 75, 5, 6, 0, 0, 0, 0, 0, 0, 0, 0, 0, 0, 0, 0, 0, 0, 0, 0, 0, 0] : List UInt8)) = true := beq_iff_eq.mpr c16
 have c16b1 : (t154.toList != ([80, 75, 5, 6, 0, 0, 0, 0, 0, 0, 0, 0, 0, 0, 0, 0, 0, 0, 0, 0, 0, 0] : List UInt8)) = false := bne_eq_false_iff_eq.mpr c16
 clear c16
 replace H := Option.bind_eq_some_iff.mp H
 obtain ⟨t169, A170, H⟩ := H
 replace H : (if t169 = 0 then ((portagelaw0_Num.f t161).bind fun t170 => (if t170 = 1300 then ((zipput_May.f ([] : List (S39))).bind fun t171 => (if t171 = true then ((zipput_May.f y157).bind fun t172 => (some (!t172))) else (none))) else (none))) else (none)) = some r := H
 have A17 := qas A170
 clear A170
 by_cases c18 : t169 = 0
 rotate_left
 ·rw [if_neg c18] at H
  exact absurd H (by simp)
 rw [if_pos c18] at H
 have c18b0 : (t169 == 0) = true := beq_iff_eq.mpr c18
 have c18b1 : (t169 != 0) = false := bne_eq_false_iff_eq.mpr c18
 clear c18
 replace H := Option.bind_eq_some_iff.mp H
 obtain ⟨t170, A190, H⟩ := H
 replace H : (if t170 = 1300 then ((zipput_May.f ([] : List (S39))).bind fun t171 => (if t171 = true then ((zipput_May.f y157).bind fun t172 => (some (!t172))) else (none))) else (none)) = some r := H
 have A19 := qas A190
 clear A190
 by_cases c20 : t170 = 1300
 rotate_left
 ·rw [if_neg c20] at H
  exact absurd H (by simp)
 rw [if_pos c20] at H
 have c20b0 : (t170 == 1300) = true := beq_iff_eq.mpr c20
 have c20b1 : (t170 != 1300) = false := bne_eq_false_iff_eq.mpr c20
 clear c20
 replace H := Option.bind_eq_some_iff.mp H
 obtain ⟨t171, A210, H⟩ := H
 replace H : (if t171 = true then ((zipput_May.f y157).bind fun t172 => (some (!t172))) else (none)) = some r := H
 have A21 := qas A210
 clear A210
 by_cases c22 : t171 = true
 rotate_left
 ·replace c22 := Bool.eq_false_iff.mpr c22
  subst c22
  have H1 : (none) = some r := by rw [if_neg (show ¬ (false = true) by decide)] at H; exact H
  clear H
  have H := H1
  clear H1
  exact absurd H (by simp)
 subst c22
 have H1 : ((zipput_May.f y157).bind fun t172 => (some (!t172))) = some r := by rw [if_pos rfl] at H; exact H
 clear H
 have H := H1
 clear H1
 replace H := Option.bind_eq_some_iff.mp H
 obtain ⟨t172, A230, H⟩ := H
 replace H : (some (!t172)) = some r := H
 have A23 := qas A230
 clear A230
 obtain rfl := Option.some.inj H
 go_enter Tryd.func25, Tryd.ntmps25
 try go_wp2_with (first | ((with_reducible refine gate_callee (f := 27) rfl ?_); refine goesL_ (some 8) rfl rfl Tryd.func27 (by kernel_rfl) rfl #[.string (⟨#[97]⟩ : ByteArray), .int .i64 0, .int .i64 1, .string (⟨#[104, 105]⟩ : ByteArray)] rfl (by (try simp only [List.map_toArray, List.map_cons, List.map_nil]); first | done | rfl | (simp only [List.length_drop, List.length_take]; rfl)) ?_; (with_reducible refine (portagelaw13_small.calls k (⟨#[97]⟩ : ByteArray) 0 1 (⟨#[104, 105]⟩ : ByteArray) t137 t138 t139 t142 t143 t144 t145 t146 t147 _ A1.out).mono ?_); rintro e w24 ⟨v140, rfl, ho0, hb⟩; refine ⟨_, rfl, ?_⟩; have n0_ := qas (Kd.R_lower ho0 (below_size (by repeat (first | (with_reducible first | exact HB.out | apply qbA | apply qbB | apply qbC) | exact HB.out)))); have n1_ := qas (below_step (by repeat (first | (with_reducible first | exact HB.out | apply qbA | apply qbB | apply qbC) | exact HB.out)) hb); clear HB; have HO141 := n0_; have HB := n1_; clear n0_ n1_; (try clear hb); (try clear hb2); (try clear hk); (try clear hi); (try clear ho0); obtain ⟨Ao25, co25, eo25⟩ := Kd.R_slice HO141.out; subst eo25) | ((with_reducible refine gate_dst (N := 9) rfl ?_); (try (refine gate_guard (by rfl) ?_; dsimp only)); refine Kd.N_lit k39 _ 39 ?hg (N' := 9) ?hd (xs := ([(⟨t137, t138, t139, t142, t143, t144, t145, t146, t147⟩ : S39)] : List (S39))) (inner := [.string t137, .bool t138, .slice Ao25 t139.length co25, .int .i64 t142, .int .i64 t143, .int .i64 t144, .string t145, .int .i64 t146, .int .i64 t147]) (ok := (fun _ => True)) (okp := (fun _ => True)) ?hr ?hp (fun _ hk => hk) ((show ∀ k_, w24.heap.size ≤ k_ → (fun _ => True) k_ from fun k_ hk => trivial) _ (Nat.le_refl _)) (Below.refl _ _) (Nat.le_refl _) (by simp) ?_; (case hd => rfl); (case hg => rfl); (case hr => first | (go_simp; done) | (go_simp; rfl)); (case hp => exact (Reps.c9 (show Kd.FK k39 _ _ (⟨t137, t138, t139, t142, t143, t144, t145, t146, t147⟩ : S39) [.string t137, .bool t138, .slice Ao25 t139.length co25, .int .i64 t142, .int .i64 t143, .int .i64 t144, .string t145, .int .i64 t146, .int .i64 t147] from (k39_mkF _ _ (⟨t137, t138, t139, t142, t143, t144, t145, t146, t147⟩ : S39) (Kd.R_reads' (Kd.R_mono (ok' := (fun _ => True)) (HO141.out) (fun k_ hk => trivial))).2.1 (Kd.R_F (Kd.R_mono (ok' := (fun _ => True)) (HO141.out) (fun k_ hk => trivial))))) (Reps.none _ _))); intro v149 w26 ho27 hb hg_ hnew_; clear hg_ hnew_; (first | rw [← Ny148.out] at ho27 | (simp only [Int.reduceToNat] at ho27; rw [← Ny148.out] at ho27)); have n0_ := qas (Kd.N_lower ho27 (below_size (by repeat (first | (with_reducible first | exact HB.out | apply qbA | apply qbB | apply qbC) | exact HB.out)))); have n1_ := qas (below_step (by repeat (first | (with_reducible first | exact HB.out | apply qbA | apply qbB | apply qbC) | exact HB.out)) hb); clear HB; clear HO141; have HO150 := n0_; have HB := n1_; clear n0_ n1_; clear hb ho27; obtain ⟨Ao28, co28, eo28⟩ := Kd.N_slice HO150.out; subst eo28) | ((with_reducible refine gate_dst (N := 1) rfl ?_); (try (refine gate_guard (by rfl) ?_; dsimp only)); refine box_event ?hg (N := 1) ?hd (cs := #[.slice none 0 0]) (t := 24) ?hr ?_; (case hd => rfl); (case hg => rfl); (case hr => first | (go_simp; done) | (go_simp; rfl)); intro gb151 hg w29 hbox hb; have n0_ := qas (Kd.N_below (Kd.N_elderB (by (with_reducible repeat (first | apply Kd.N_alloc | apply Kd.N_drewN | apply Kd.N_drew)); exact HO150.out) gb151 (Nat.le_of_eq hg.symm)) hb); have n1_ := qas (below_step (by repeat (first | (with_reducible first | exact HB.out | apply qbA | apply qbB | apply qbC) | exact HB.out)) hb); have n2_ := qas (hbox); have n3_ := qas ((by rw [hg]; exact (below_size (by repeat (first | (with_reducible first | exact HB.out | apply qbA | apply qbB | apply qbC) | exact HB.out))) : w.heap.size ≤ gb151)); have n4_ := qas ((by rw [hg]; exact (below_size (by repeat (first | (with_reducible first | exact HB.out | apply qbA | apply qbB | apply qbC) | exact HB.out))) : w.heap.size ≤ gb151)); clear HO150; clear HB; have HO150 := n0_; have HB := n1_; have BK151 := n2_; have GW151 := n3_; have GE151 := n4_; clear n0_ n1_ n2_ n3_ n4_; clear hb hbox hg; have hcz30_0 : w29.cell? ⟨gb151, 0, none⟩ = some (.slice none 0 0) := (blk_cell BK151.out 0).trans rfl; have hfz30_0 := blk_frozen BK151.out 0) | ((with_reducible refine gate_callee (f := 17) rfl ?_); refine goesL_ (some 13) rfl rfl Tryd.func17 (by kernel_rfl) rfl #[.agg #[.slice Ao28 y148.length co28]] rfl (by (try simp only [List.map_toArray, List.map_cons, List.map_nil]); first | done | rfl | (simp only [List.length_drop, List.length_take]; rfl)) ?_; (with_reducible refine (zipput_Put.calls _ _ y148 t152 t153 _ ?side1 ?side2 A2.out).mono ?_); (case side1 => refine (Kd.N_reads' (e := 39) (base := w.heap.size) (ok := fun k_ => (True ∧ k_ ≠ gb151)) (n := y148.length) (c := co28) ?_).2.2; exact (by (with_reducible repeat (first | apply Kd.N_alloc | apply Kd.N_drewN | apply Kd.N_drew)); exact (Kd.N_mono (Kd.N_far (p := ⟨gb151, 0, none⟩) (Kd.N_mono HO150.out (fun k_ hk => (⟨hk, hk.2⟩ : _ ∧ k_ ≠ gb151))) (fun _ hk => hk.2) (.slice Ao28 y148.length co28)) (fun _ h_ => h_.1)))); (case side2 => exact (Kd.N_reads' HO150.out).2.1); rintro e w31 ⟨rfl, hb⟩; refine ⟨_, rfl, ?_⟩; have n0_ := qas (Kd.N_below (by (with_reducible repeat (first | apply Kd.N_alloc | apply Kd.N_drewN | apply Kd.N_drew)); exact (Kd.N_mono (Kd.N_far (p := ⟨gb151, 0, none⟩) (Kd.N_mono HO150.out (fun k_ hk => (⟨hk, hk.2⟩ : _ ∧ k_ ≠ gb151))) (fun _ hk => hk.2) (.slice Ao28 y148.length co28)) (fun _ h_ => h_.1))) hb); have n1_ := qas (blk_below (g := gb151) (o := .cells #[.slice Ao28 y148.length co28] 24 (0, 0)) (by (with_reducible repeat (first | refine qkA ?_ _ | refine qkB ?_ | refine qkC ?_ _)); refine blk_put (cs := #[.slice none 0 0]) ?_ 0 _ rfl; (with_reducible repeat (first | refine qkA ?_ _ | refine qkB ?_ | refine qkC ?_ _)); exact BK151.out) hb); have n2_ := qas (below_step (by repeat (first | (with_reducible first | exact HB.out | apply qbA | apply qbB | apply qbC | refine below_set ?_ GE151.out) | exact HB.out)) hb); clear HO150; clear BK151; clear HB; have HO150 := n0_; have BK151 := n1_; have HB := n2_; clear n0_ n1_ n2_; (try clear hb); (try clear hb2); (try clear hk); (try clear hi)) | ((with_reducible refine gate_callee (f := 17) rfl ?_); refine goesL_ (some 18) rfl rfl Tryd.func17 (by kernel_rfl) rfl #[.agg #[.slice none 0 0]] rfl (by (try simp only [List.map_toArray, List.map_cons, List.map_nil]); first | done | rfl | (simp only [List.length_drop, List.length_take]; rfl)) ?_; (refine (zipput_Put.calls _ _ ([] : List (S39)) t154 t155 _ ?side1 ?side2 A3.out).mono ?_); (case side1 => exact Kd.C_nil _ _); (case side2 => exact Nat.le_refl _); rintro e w32 ⟨rfl, hb⟩; refine ⟨_, rfl, ?_⟩; have n0_ := qas (Kd.N_below (by (with_reducible repeat (first | apply Kd.N_alloc | apply Kd.N_drewN | apply Kd.N_drew)); exact HO150.out) hb); have n1_ := qas (blk_below (g := gb151) (o := .cells #[.slice Ao28 y148.length co28] 24 (0, 0)) (by (with_reducible repeat (first | refine qkA ?_ _ | refine qkB ?_ | refine qkC ?_ _)); exact BK151.out) hb); have n2_ := qas (below_step (by repeat (first | (with_reducible first | exact HB.out | apply qbA | apply qbB | apply qbC | refine below_set ?_ GE151.out) | exact HB.out)) hb); clear HO150; clear BK151; clear HB; have HO150 := n0_; have BK151 := n1_; have HB := n2_; clear n0_ n1_ n2_; (try clear hb); (try clear hb2); (try clear hk); (try clear hi)))
 have n0_ := qas (Kd.N_drew HO150.out)
 have n1_ := qas (qkB BK151.out)
 have n2_ := qas (qbC HB.out)
 clear HO150
 clear BK151
 clear HB
 have HO150 := n0_
 have BK151 := n1_
 have HB := n2_
 clear n0_ n1_ n2_
 have p156 : 0 ≤ (0 : Int) := (by omega)
 have q156 : 0 < (y148.length : Int) := qde (by first | (with_reducible assumption) | assumption)
 obtain ⟨ad156, A156_2, c156_2, e156, hx156_0, hx156_1, hx156_2, hx156_3, hx156_4, hx156_5, hx156_6, hx156_7, hx156_8, hl156_2, hi156_2⟩ := at_T39 (Kd.N_reads' HO150.out).2.2 0 p156 q156
 cases e156
 obtain ⟨ce156, hce156, hMe156, hcc156⟩ := Kd.N_get HO150.out z39 0 p156 (by first | exact q156 | exact qde (by first | (with_reducible assumption) | assumption) | (have e_ := (Kd.N_reads' HO150.out).1; omega))
 obtain ⟨ua156_2, uc156_2, rfl, ul156_2, ge156_2⟩ := k39_openF hMe156
 have hv156_2 := hcc156 2 _ rfl
 rw [add_field _ _ 2 (by omega)] at hv156_2
 replace hv156_2 := Option.some.inj (hv156_2.symm.trans hx156_2)
 injection hv156_2 with hva_ hvn_ hvc_
 rw [hva_] at ge156_2
 rw [hvc_] at ul156_2
 have HL156_2 := qas (show Kd.V (Kd.int .i64) 3 _ w.heap.size _ _ ((rd_T39 y148 0).f2) from Kd.V_mk ul156_2 ge156_2)
 clear hva_ hvn_ hvc_ ge156_2 ul156_2
 clear hcc156 hce156
 have qi156 : (0 < y148.length) = True := eq_true (by omega)
 (try rw [show ((0 : Int)).toNat = 0 from rfl] at hx156_0)
 (try rw [show 0 * 9 = 0 from rfl] at hx156_0)
 (try rw [Addr.add_zero'] at hx156_0)
 (try rw [show ((0 : Int)).toNat = 0 from rfl] at hx156_1)
 (try rw [show 0 * 9 = 0 from rfl] at hx156_1)
 (try rw [Addr.add_zero'] at hx156_1)
 (try rw [show ((0 : Int)).toNat = 0 from rfl] at hx156_2)
 (try rw [show 0 * 9 = 0 from rfl] at hx156_2)
 (try rw [Addr.add_zero'] at hx156_2)
 (try rw [show ((0 : Int)).toNat = 0 from rfl] at hx156_3)
 (try rw [show 0 * 9 = 0 from rfl] at hx156_3)
 (try rw [Addr.add_zero'] at hx156_3)
 (try rw [show ((0 : Int)).toNat = 0 from rfl] at hx156_4)
 (try rw [show 0 * 9 = 0 from rfl] at hx156_4)
 (try rw [Addr.add_zero'] at hx156_4)
 (try rw [show ((0 : Int)).toNat = 0 from rfl] at hx156_5)
 (try rw [show 0 * 9 = 0 from rfl] at hx156_5)
 (try rw [Addr.add_zero'] at hx156_5)
 (try rw [show ((0 : Int)).toNat = 0 from rfl] at hx156_6)
 (try rw [show 0 * 9 = 0 from rfl] at hx156_6)
 (try rw [Addr.add_zero'] at hx156_6)
 (try rw [show ((0 : Int)).toNat = 0 from rfl] at hx156_7)
 (try rw [show 0 * 9 = 0 from rfl] at hx156_7)
 (try rw [Addr.add_zero'] at hx156_7)
 (try rw [show ((0 : Int)).toNat = 0 from rfl] at hx156_8)
 (try rw [show 0 * 9 = 0 from rfl] at hx156_8)
 (try rw [Addr.add_zero'] at hx156_8)
 have HR156_2 := qas hi156_2
 have HC156_2 := qas hl156_2
 clear hi156_2 hl156_2
 replace p156 := eq_true p156
 replace q156 := eq_true q156
 refine start_ (n := 10) (S := fun w' => w'.cell? ⟨gb151, 0, none⟩ = some (.slice (some ad156) y148.length co28) ∧ w'.cell? ad156 = some (.string ((rd_T39 y148 0).f0)) ∧ w'.cell? ⟨ad156.block, ad156.off + 1, none⟩ = some (.bool ((rd_T39 y148 0).f1)) ∧ w'.cell? ⟨ad156.block, ad156.off + 2, none⟩ = some (.slice A156_2 ((rd_T39 y148 0).f2).length c156_2) ∧ w'.cell? ⟨ad156.block, ad156.off + 3, none⟩ = some (.int .i64 ((rd_T39 y148 0).f3)) ∧ w'.cell? ⟨ad156.block, ad156.off + 4, none⟩ = some (.int .i64 ((rd_T39 y148 0).f4)) ∧ w'.cell? ⟨ad156.block, ad156.off + 5, none⟩ = some (.int .i64 ((rd_T39 y148 0).f5)) ∧ w'.cell? ⟨ad156.block, ad156.off + 6, none⟩ = some (.string ((rd_T39 y148 0).f6)) ∧ w'.cell? ⟨ad156.block, ad156.off + 7, none⟩ = some (.int .i64 ((rd_T39 y148 0).f7)) ∧ w'.cell? ⟨ad156.block, ad156.off + 8, none⟩ = some (.int .i64 ((rd_T39 y148 0).f8))) (ds := [7, 9]) #[false, false, false, false, false, false, false, false, false, false] (by kernel_rfl) rfl rfl ⟨(blk_cell BK151.out 0).trans rfl, hx156_0, hx156_1, hx156_2, hx156_3, hx156_4, hx156_5, hx156_6, hx156_7, hx156_8⟩ (fun hHeld => ?_); refine with_tabW portagelaw13_awake.tab4 portagelaw13_awake.bits4 (fun HT_ HW_ => ?_)
 generalize w32.drew = w33 at HO150 BK151 HB HL156_2 HR156_2 hx156_0 hx156_1 hx156_2 hx156_3 hx156_4 hx156_5 hx156_6 hx156_7 hx156_8 hHeld ⊢
 refine pure_ (i := 0) (N := some 21) (v := ?_) (a' := ?_) #[true, false, false, false, false, false, false, false, false, false] rfl rfl (any_of HT_.out (by kernel_rfl)) (fun _ _ _ h => h) (Or.inl ⟨by rfl, ?_⟩) ?_ ?_
 rotate_left
 ·intro w'
  go_simp
  with_reducible rfl
 rotate_left
 ·simp only [Act.put, qsA, qsB, qsC, i64_w, i32_w, qsD, qsE]
  rfl
 refine pure_ (i := 2) (N := some 23) (v := ?_) (a' := ?_) #[true, false, true, false, false, false, false, false, false, false] rfl rfl (any_of HT_.out (by kernel_rfl)) (fun _ _ _ h => h) (Or.inl ⟨by rfl, ?_⟩) ?_ ?_
 rotate_left
 ·intro w'
  go_simp
  with_reducible rfl
 rotate_left
 ·simp only [Act.put, qsA, qsB, qsC, i64_w, i32_w, qsD, qsE]
  rfl
 refine take_ (i := 1) (N := some 22) (v := ?_) (a' := ?_) #[true, true, true, false, false, false, false, false, false, false] rfl rfl (take_ofW HT_.out HW_.out (by kernel_rfl)) (fun _ _ _ h => h) (Or.inl ⟨by rfl, ?_⟩) hHeld ?_ ?_
 rotate_left
 ·rintro w' ⟨s0, s1, s2, s3, s4, s5, s6, s7, s8, s9⟩
  go_simp
  with_reducible rfl
 rotate_left
 ·simp only [Act.put, qsA, qsB, qsC, i64_w, i32_w, qsD, qsE]
  rfl
 refine take_ (i := 3) (N := some 24) (v := ?_) (a' := ?_) #[true, true, true, true, false, false, false, false, false, false] rfl rfl (take_ofW HT_.out HW_.out (by kernel_rfl)) (fun _ _ _ h => h) (Or.inl ⟨by rfl, ?_⟩) hHeld ?_ ?_
 rotate_left
 ·rintro w' ⟨s0, s1, s2, s3, s4, s5, s6, s7, s8, s9⟩
  go_simp
  with_reducible rfl
 rotate_left
 ·simp only [Act.put, qsA, qsB, qsC, i64_w, i32_w, qsD, qsE]
  rfl
 refine pure_ (i := 4) (N := some 25) (v := ?_) (a' := ?_) #[true, true, true, true, true, false, false, false, false, false] rfl rfl (any_of HT_.out (by kernel_rfl)) (fun _ _ _ h => h) (Or.inl ⟨by rfl, ?_⟩) ?_ ?_
 rotate_left
 ·intro w'
  go_simp
  with_reducible rfl
 rotate_left
 ·simp only [Act.put, qsA, qsB, qsC, i64_w, i32_w, qsD, qsE]
  rfl
 refine take_ (i := 5) (N := some 26) (v := ?_) (a' := ?_) #[true, true, true, true, true, true, false, false, false, false] rfl rfl (take_ofW HT_.out HW_.out (by kernel_rfl)) (fun _ _ _ h => h) (Or.inl ⟨by rfl, ?_⟩) hHeld ?_ ?_
 rotate_left
 ·rintro w' ⟨s0, s1, s2, s3, s4, s5, s6, s7, s8, s9⟩
  go_simp
  with_reducible rfl
 rotate_left
 ·simp only [Act.put, qsA, qsB, qsC, i64_w, i32_w, qsD, qsE]
  rfl
 refine one_ (i := 6) (N := some 27) #[true, true, true, true, true, true, true, false, false, false] rfl rfl (one_of HT_.out (by kernel_rfl)) (by decide) (fun K hK => ?_)
 refine value_ (w1 := ?_) (v := ?_) (by rfl) rfl ?_ ?_
 rotate_left 2
 ·go_simp
  constructor
  ·rfl
  ·rfl
 refine hK.out _ _ ⟨(blk_cell (qkC BK151.out _) 0).trans rfl, (World.cell?_alloc_lt _ _ _ (qbl _ _ (hHeld.2.1))).trans (hHeld.2.1), (World.cell?_alloc_lt _ _ _ (qbl _ _ (hHeld.2.2.1))).trans (hHeld.2.2.1), (World.cell?_alloc_lt _ _ _ (qbl _ _ (hHeld.2.2.2.1))).trans (hHeld.2.2.2.1), (World.cell?_alloc_lt _ _ _ (qbl _ _ (hHeld.2.2.2.2.1))).trans (hHeld.2.2.2.2.1), (World.cell?_alloc_lt _ _ _ (qbl _ _ (hHeld.2.2.2.2.2.1))).trans (hHeld.2.2.2.2.2.1), (World.cell?_alloc_lt _ _ _ (qbl _ _ (hHeld.2.2.2.2.2.2.1))).trans (hHeld.2.2.2.2.2.2.1), (World.cell?_alloc_lt _ _ _ (qbl _ _ (hHeld.2.2.2.2.2.2.2.1))).trans (hHeld.2.2.2.2.2.2.2.1), (World.cell?_alloc_lt _ _ _ (qbl _ _ (hHeld.2.2.2.2.2.2.2.2.1))).trans (hHeld.2.2.2.2.2.2.2.2.1), (World.cell?_alloc_lt _ _ _ (qbl _ _ (hHeld.2.2.2.2.2.2.2.2.2))).trans (hHeld.2.2.2.2.2.2.2.2.2)⟩ (fun hHeld => ?_)
 clear hK K
 refine norm_ (a' := ?_) ?_ ?_
 rotate_left
 ·show Act.put _ (some 27) _ = _
  simp only [Act.put, qsA, qsB, qsC, i64_w, i32_w, qsD, qsE]
  rfl
 refine last_ (i := 7) (N := some 28) #[true, true, true, true, true, true, true, true, false, false] rfl rfl (one_of HT_.out (by kernel_rfl)) (by decide) (fun K hK => ?_)
 refine Kd.N_append_step k39 (w0 := w) w.heap.size (by rfl) (.tmp 22) (.tmp 27) 22 39 (.agg #[(.string ⟨#[]⟩), (.bool false), (.slice none 0 0), (.int .i64 0), (.int .i64 0), (.int .i64 0), (.string ⟨#[]⟩), (.int .i64 0), (.int .i64 0)]) 104 rfl Tryd.underlying22 info39 rfl (by decide) (by omega) (.slice (some ad156) y148.length co28) y148 (⟨(rd_T39 y148 0).f0, (rd_T39 y148 0).f1, (rd_T39 y148 0).f2, (rd_T39 y148 0).f3, (rd_T39 y148 0).f4, (rd_T39 y148 0).f5, (rd_T39 y148 0).f6, (rd_T39 y148 0).f7, (rd_T39 y148 0).f8⟩ : S39) [.string ((rd_T39 y148 0).f0), .bool ((rd_T39 y148 0).f1), .slice A156_2 ((rd_T39 y148 0).f2).length c156_2, .int .i64 ((rd_T39 y148 0).f3), .int .i64 ((rd_T39 y148 0).f4), .int .i64 ((rd_T39 y148 0).f5), .string ((rd_T39 y148 0).f6), .int .i64 ((rd_T39 y148 0).f7), .int .i64 ((rd_T39 y148 0).f8)] (fun k_ => k_ ≠ gb151) (fun k_ => ((fun k_ => k_ ≠ gb151)) k_ ∧ some k_ ≠ (.slice (some ad156) y148.length co28 : Value).ownBlock) rfl rfl ?aP (fun _ hk => hk) ?aF ?aO ?aB ?aS ?aL ?_
 (case aP => exact (k39_mkF _ _ (⟨(rd_T39 y148 0).f0, (rd_T39 y148 0).f1, (rd_T39 y148 0).f2, (rd_T39 y148 0).f3, (rd_T39 y148 0).f4, (rd_T39 y148 0).f5, (rd_T39 y148 0).f6, (rd_T39 y148 0).f7, (rd_T39 y148 0).f8⟩ : S39) (Kd.V_reads' (Kd.V_mono (ok' := (fun k_ => ((fun k_ => k_ ≠ gb151)) k_ ∧ some k_ ≠ (.slice (some ad156) y148.length co28 : Value).ownBlock)) (HL156_2.out) (fun k_ hk => ⟨hk.1.2, hk.2⟩))).2.1 (Kd.V_F (Kd.V_mono (ok' := (fun k_ => ((fun k_ => k_ ≠ gb151)) k_ ∧ some k_ ≠ (.slice (some ad156) y148.length co28 : Value).ownBlock)) (HL156_2.out) (fun k_ hk => ⟨hk.1.2, hk.2⟩)))))
 (case aB => exact (by repeat (first | (with_reducible first | exact HB.out | apply qbA | apply qbB | apply qbC | refine below_set ?_ GE151.out) | exact HB.out)))
 (case aF => exact (fun k_ hk => Kd.freshB (g := gb151) (o := .cells #[.slice (some ad156) y148.length co28] 24 (0, 0)) (by (with_reducible repeat (first | refine qkA ?_ _ | refine qkB ?_ | refine qkC ?_ _)); exact BK151.out) k_ hk))
 (case aO => exact (by (with_reducible repeat (first | apply Kd.N_alloc | apply Kd.N_drewN | apply Kd.N_drew)); exact Kd.N_mono HO150.out (fun _ hk => hk.2)))
 (case aS => exact (below_size (by repeat (first | (with_reducible first | exact HB.out | apply qbA | apply qbB | apply qbC | refine below_set ?_ GE151.out) | exact HB.out))))
 (case aL => have := LMc5.out; omega)
 intro v158 w34 ho hb hg hat
 rw [← Ny157.out] at ho
 have n0_ := qas (blk_grown (g := gb151) (o := .cells #[.slice (some ad156) y148.length co28] 24 (0, 0)) (by (with_reducible repeat (first | refine qkA ?_ _ | refine qkB ?_ | refine qkC ?_ _)); exact BK151.out) hg (Kd.N_ne HO150.out BK151.out (by decide)))
 have n1_ := qas (Kd.V_afterv (ok := (fun k_ => k_ ≠ gb151)) (by (with_reducible repeat (first | apply Kd.V_alloc | apply Kd.V_drewN | apply Kd.V_drew)); exact Kd.V_mono HL156_2.out (fun _ hk => ⟨hk.1.2, hk.2⟩)) hg hat)
 have n2_ := qas (hb)
 have n3_ := qas (ho)
 clear BK151
 clear HL156_2
 clear HB
 clear HO150
 have BK151 := n0_
 have HL156_2 := n1_
 have HB := n2_
 have HO159 := n3_
 clear n0_ n1_ n2_ n3_
 clear ho hb hg hat
 obtain ⟨Ao35, co35, eo35⟩ := Kd.N_slice HO159.out
 (first | subst eo35 | (injection eo35 with f1_ f2_ f3_; have f4_ := f1_.symm; have f5_ := f3_.symm; clear f1_ f2_ f3_; subst f4_; subst f5_))
 refine hK.out _ _ ?_
 clear hK K
 refine norm_ (a' := ?_) ?_ ?_
 rotate_left
 ·show Act.put _ (some 28) _ = _
  simp only [Act.put, qsA, qsB, qsC, i64_w, i32_w, qsD, qsE]
  rfl
 refine pure_ (i := 8) (N := some 29) (v := ?_) (a' := ?_) #[true, true, true, true, true, true, true, true, true, false] rfl rfl (any_of HT_.out (by kernel_rfl)) (fun _ _ _ h => h) (Or.inl ⟨by rfl, ?_⟩) ?_ ?_
 rotate_left
 ·intro w'
  go_simp
  with_reducible rfl
 rotate_left
 ·simp only [Act.put, qsA, qsB, qsC, i64_w, i32_w, qsD, qsE]
  rfl
 refine last_ (i := 9) (N := none) #[true, true, true, true, true, true, true, true, true, true] rfl rfl (one_of HT_.out (by kernel_rfl)) (by decide) (fun K hK => ?_)
 have hs36 : w34.cell? ⟨gb151, 0, none⟩ = some (.slice (some ad156) y148.length co28) := (blk_cell BK151.out 0).trans rfl
 have hfs36 := blk_frozen BK151.out 0
 refine skip_ (w1 := ?_) (by rfl) rfl ?_ ?_
 rotate_left
 ·go_simp
  rfl
 refine hK.out _ _ ?_
 clear hK K
 refine done_ (done_of HT_.out (by kernel_rfl)) ?_
 have hcz37_0 : w34.cell? ⟨gb151, 0, none⟩ = some (.slice (some ad156) y148.length co28) := (blk_cell BK151.out 0).trans rfl
 have hfz37_0 := blk_frozen BK151.out 0
 try go_wp2_with (first | ((with_reducible refine gate_callee (f := 17) rfl ?_); refine goesL_ (some 32) rfl rfl Tryd.func17 (by kernel_rfl) rfl #[.agg #[.slice Ao35 y157.length co35]] rfl (by (try simp only [List.map_toArray, List.map_cons, List.map_nil]); first | done | rfl | (simp only [List.length_drop, List.length_take]; rfl)) ?_; (with_reducible refine (zipput_Put.calls _ _ y157 t160 t161 _ ?side1 ?side2 A6.out).mono ?_); (case side1 => refine (Kd.N_reads' (e := 39) (base := w.heap.size) (ok := fun k_ => k_ ≠ gb151) (n := y157.length) (c := co35) ?_).2.2; exact (by (with_reducible repeat (first | apply Kd.N_alloc | apply Kd.N_drewN | apply Kd.N_drew)); exact (Kd.N_mono (Kd.N_far (p := ⟨gb151, 0, none⟩) (Kd.N_mono HO159.out (fun k_ hk => (⟨hk, hk⟩ : _ ∧ k_ ≠ gb151))) (fun _ hk => hk.2) (.slice Ao35 y157.length co35)) (fun _ h_ => h_.1)))); (case side2 => exact (Kd.N_reads' HO159.out).2.1); rintro e w38 ⟨rfl, hb⟩; refine ⟨_, rfl, ?_⟩; have n0_ := qas (Kd.V_below (by (with_reducible repeat (first | apply Kd.V_alloc | apply Kd.V_drewN | apply Kd.V_drew)); exact (Kd.V_mono (Kd.V_far (p := ⟨gb151, 0, none⟩) (Kd.V_mono HL156_2.out (fun k_ hk => (⟨hk, hk.1⟩ : _ ∧ k_ ≠ gb151))) (fun _ hk => hk.2) (.slice Ao35 y157.length co35)) (fun _ h_ => h_.1))) hb); have n1_ := qas (Kd.N_below (by (with_reducible repeat (first | apply Kd.N_alloc | apply Kd.N_drewN | apply Kd.N_drew)); exact (Kd.N_mono (Kd.N_far (p := ⟨gb151, 0, none⟩) (Kd.N_mono HO159.out (fun k_ hk => (⟨hk, hk⟩ : _ ∧ k_ ≠ gb151))) (fun _ hk => hk.2) (.slice Ao35 y157.length co35)) (fun _ h_ => h_.1))) hb); have n2_ := qas (blk_below (g := gb151) (o := .cells #[.slice Ao35 y157.length co35] 24 (0, 0)) (by (with_reducible repeat (first | refine qkA ?_ _ | refine qkB ?_ | refine qkC ?_ _)); refine blk_put (cs := #[.slice (some ad156) y148.length co28]) ?_ 0 _ rfl; (with_reducible repeat (first | refine qkA ?_ _ | refine qkB ?_ | refine qkC ?_ _)); exact BK151.out) hb); have n3_ := qas (below_step (by repeat (first | (with_reducible first | exact HB.out | apply qbA | apply qbB | apply qbC | refine below_set ?_ GE151.out) | exact HB.out)) hb); clear HL156_2; clear HO159; clear BK151; clear HB; have HL156_2 := n0_; have HO159 := n1_; have BK151 := n2_; have HB := n3_; clear n0_ n1_ n2_ n3_; (try clear hb); (try clear hb2); (try clear hk); (try clear hi)) | (go_at_call 19; (with_reducible refine (portagelaw0_Num.calls t153 t162 _ A11.out).mono ?_); rintro e w' ⟨rfl, ⟨nd, rfl⟩⟩; have hcz39_0 : w38.cell? ⟨gb151, 0, none⟩ = some (.slice Ao35 y157.length co35) := (blk_cell BK151.out 0).trans rfl; have hfz39_0 := blk_frozen BK151.out 0; have q40 : (1 : Int) ≤ ((y157.length : Int) : Int) := qde (by first | (with_reducible assumption) | assumption); obtain ⟨i040, hi040, _, hsz40, _⟩ := info_parts info39; have hroom40 : y157.length ≤ co35 := (Kd.N_reads' HO159.out).2.1; have hC40 : Kd.F k39 _ _ Ao35 y157.length y157 := (Kd.V_at (base := w.heap.size) (Kd.N_V HO159.out)).2.2; have hcut40 := cut_to (P := Tryd.prog) 22 39 .i64 Tryd.underlying22 hi040 Ao35 y157.length co35 1 (by omega) q40 hroom40; have hr40 := Kd.F_take (m := 1) hC40 (by omega); have hy40 : y163.length = (1 : Int).toNat := (by rw [Ny163.out, List.length_take]; omega); rw [← Ny163.out] at hr40; rw [← hy40] at hcut40; have HO167 := qas (show Kd.V k39 39 _ w.heap.size _ (.slice Ao35 y163.length co35) y163 from Kd.V_mk (by omega) hr40); have HC167 := qas (show y163.length ≤ co35 from by omega); clear hr40 hC40 hroom40 hi040 hsz40; have KY40 := qas hy40; clear hy40; replace q40 := eq_true q40) | (go_at_call 20; (with_reducible refine (zipput_Size.calls _ _ y163 t168 _ ?side1 ?side2 A14.out).mono ?_); (case side1 => repeat (first | exact (Kd.V_reads' HO167.out).2.2 | (with_reducible refine Kd.C_alloc ?_ _) | (with_reducible refine Kd.C_drewN ?_ _) | (with_reducible refine Kd.C_drew ?_))); (case side2 => exact (Kd.V_reads' HO167.out).2.1); rintro e w41 ⟨rfl, hb⟩; have n0_ := qas (Kd.V_below (by (with_reducible repeat (first | apply Kd.V_alloc | apply Kd.V_drewN | apply Kd.V_drew)); exact HL156_2.out) hb); have n1_ := qas (Kd.N_below (by (with_reducible repeat (first | apply Kd.N_alloc | apply Kd.N_drewN | apply Kd.N_drew)); exact HO159.out) hb); have n2_ := qas (Kd.V_below (by (with_reducible repeat (first | apply Kd.V_alloc | apply Kd.V_drewN | apply Kd.V_drew)); exact HO167.out) hb); have n3_ := qas (blk_below (g := gb151) (o := .cells #[.slice Ao35 y157.length co35] 24 (0, 0)) (by (with_reducible repeat (first | refine qkA ?_ _ | refine qkB ?_ | refine qkC ?_ _)); exact BK151.out) hb); have n4_ := qas (below_step (by repeat (first | (with_reducible first | exact HB.out | apply qbA | apply qbB | apply qbC | refine below_set ?_ GE151.out) | exact HB.out)) hb); clear HL156_2; clear HO159; clear HO167; clear BK151; clear HB; have HL156_2 := n0_; have HO159 := n1_; have HO167 := n2_; have BK151 := n3_; have HB := n4_; clear n0_ n1_ n2_ n3_ n4_; (try clear hb); (try clear hb2); (try clear hk); (try clear hi)) | (go_at_call 19; (with_reducible refine (portagelaw0_Num.calls t155 t169 _ A17.out).mono ?_); rintro e w' ⟨rfl, ⟨nd, rfl⟩⟩) | (go_at_call 19; (with_reducible refine (portagelaw0_Num.calls t161 t170 _ A19.out).mono ?_); rintro e w' ⟨rfl, ⟨nd, rfl⟩⟩) | (go_at_call 22; (with_reducible show Calls _ _ #[.agg #[.slice none 0 0]] _ _); (refine (zipput_May.calls _ _ ([] : List (S39)) true _ ?side1 ?side2 A21.out).mono ?_); (case side1 => exact Kd.C_nil _ _); (case side2 => exact Nat.le_refl _); rintro e w42 ⟨rfl, hb⟩; have n0_ := qas (Kd.V_below (by (with_reducible repeat (first | apply Kd.V_alloc | apply Kd.V_drewN | apply Kd.V_drew)); exact HL156_2.out) hb); have n1_ := qas (Kd.N_below (by (with_reducible repeat (first | apply Kd.N_alloc | apply Kd.N_drewN | apply Kd.N_drew)); exact HO159.out) hb); have n2_ := qas (Kd.V_below (by (with_reducible repeat (first | apply Kd.V_alloc | apply Kd.V_drewN | apply Kd.V_drew)); exact HO167.out) hb); have n3_ := qas (blk_below (g := gb151) (o := .cells #[.slice Ao35 y157.length co35] 24 (0, 0)) (by (with_reducible repeat (first | refine qkA ?_ _ | refine qkB ?_ | refine qkC ?_ _)); exact BK151.out) hb); have n4_ := qas (below_step (by repeat (first | (with_reducible first | exact HB.out | apply qbA | apply qbB | apply qbC | refine below_set ?_ GE151.out) | exact HB.out)) hb); clear HL156_2; clear HO159; clear HO167; clear BK151; clear HB; have HL156_2 := n0_; have HO159 := n1_; have HO167 := n2_; have BK151 := n3_; have HB := n4_; clear n0_ n1_ n2_ n3_ n4_; (try clear hb); (try clear hb2); (try clear hk); (try clear hi); have hcz43_0 : w42.cell? ⟨gb151, 0, none⟩ = some (.slice Ao35 y157.length co35) := (blk_cell BK151.out 0).trans rfl; have hfz43_0 := blk_frozen BK151.out 0) | (go_at_call 22; (with_reducible refine (zipput_May.calls _ _ y157 t172 _ ?side1 ?side2 A23.out).mono ?_); (case side1 => repeat (first | exact (Kd.N_reads' HO159.out).2.2 | (with_reducible refine Kd.C_alloc ?_ _) | (with_reducible refine Kd.C_drewN ?_ _) | (with_reducible refine Kd.C_drew ?_))); (case side2 => exact (Kd.N_reads' HO159.out).2.1); rintro e w44 ⟨rfl, hb⟩; have n0_ := qas (Kd.V_below (by (with_reducible repeat (first | apply Kd.V_alloc | apply Kd.V_drewN | apply Kd.V_drew)); exact HL156_2.out) hb); have n1_ := qas (Kd.N_below (by (with_reducible repeat (first | apply Kd.N_alloc | apply Kd.N_drewN | apply Kd.N_drew)); exact HO159.out) hb); have n2_ := qas (Kd.V_below (by (with_reducible repeat (first | apply Kd.V_alloc | apply Kd.V_drewN | apply Kd.V_drew)); exact HO167.out) hb); have n3_ := qas (blk_below (g := gb151) (o := .cells #[.slice Ao35 y157.length co35] 24 (0, 0)) (by (with_reducible repeat (first | refine qkA ?_ _ | refine qkB ?_ | refine qkC ?_ _)); exact BK151.out) hb); have n4_ := qas (below_step (by repeat (first | (with_reducible first | exact HB.out | apply qbA | apply qbB | apply qbC | refine below_set ?_ GE151.out) | exact HB.out)) hb); clear HL156_2; clear HO159; clear HO167; clear BK151; clear HB; have HL156_2 := n0_; have HO159 := n1_; have HO167 := n2_; have BK151 := n3_; have HB := n4_; clear n0_ n1_ n2_ n3_ n4_; (try clear hb); (try clear hb2); (try clear hk); (try clear hi)))
 go_ret
 exact ⟨by first | rfl | (simp [errW_none, errW_some] <;> rfl) | (simp [*, errW_none, errW_some] <;> rfl), by repeat (first | (with_reducible first | exact HB.out | apply qbA | apply qbB | apply qbC | refine below_set ?_ GE151.out) | exact HB.out)⟩

/-! ### portageref10_Number: function 26 -/
def portageref10_Number.l0 : Nat → ByteArray → Int → Int → Option (Int)
 | 0, _, _, _ => none
 | k + 1, x0, x3, x4 => if x4 ≥ 0 then (if 0 ≤ x4 then (if x4 < (x0.size : Int) then (portageref10_Number.l0 k x0 (Go.bits .or .i64 (wrap64 (x3 * 256)) (wrap64 (bt x0 x4))) (wrap64 (x4 - 1))) else (none)) else (none)) else (some x3)
def portageref10_Number.f (k : Nat) (a0 : ByteArray) : Option (Int) := portageref10_Number.l0 k a0 0 (wrap64 ((a0.size : Int) - 1))
theorem portageref10_Number.mono_l : ∀ k, (∀ y0 y1 y2, LeO (portageref10_Number.l0 k y0 y1 y2) (portageref10_Number.l0 (k + 1) y0 y1 y2))
 | 0 => fun _ _ _ r h => by simp [portageref10_Number.l0] at h
 | k + 1 => by
  have ih0 := portageref10_Number.mono_l k
  ·intro y0 y1 y2
   unfold portageref10_Number.l0
   repeat' first
   | (with_reducible exact ih0 _ _ _)
   | (with_reducible exact LeO.refl _)
   | (with_reducible exact LeO.none _)
   | (with_reducible refine LeO.ite ?_ ?_)
   | (with_reducible refine LeO.bind ?_ (fun _ => ?_))
   | exact ih0 _ _ _
   | exact LeO.none _
   | refine LeO.ite ?_ ?_
   | refine LeO.bind ?_ (fun _ => ?_)
theorem portageref10_Number.mono : ∀ a0 k, LeO (portageref10_Number.f k a0) (portageref10_Number.f (k + 1) a0) := by
 intro a0 k
 have ih0 := portageref10_Number.mono_l k
 unfold portageref10_Number.f
 repeat' first
   | (with_reducible exact ih0 _ _ _)
   | (with_reducible exact LeO.refl _)
   | (with_reducible exact LeO.none _)
   | (with_reducible refine LeO.ite ?_ ?_)
   | (with_reducible refine LeO.bind ?_ (fun _ => ?_))
   | exact ih0 _ _ _
   | exact LeO.none _
   | refine LeO.ite ?_ ?_
   | refine LeO.bind ?_ (fun _ => ?_)
set_option maxHeartbeats 8000000 in
set_option maxRecDepth 100000 in
theorem portageref10_Number.calls (k : Nat) (a0 : ByteArray) (r : Int) (w : World) (h : portageref10_Number.f k a0 = some r) :
  Calls Tryd.prog 26 #[.string a0] w fun e w' => e = .returned (.int .i64 r) ∧ Drawn0 w w' := by
 have H : (portageref10_Number.l0 k a0 0 (wrap64 ((a0.size : Int) - 1))) = some r := h
 clear h
 have H' := qas H
 clear H
 go_enter Tryd.func26, Tryd.ntmps26
 go_wp2
 go_loopg [3, 4] k (fun kq v3 v4 w' => ∃ (x3_1 : Int) (x4_1 : Int), v3 = .int .i64 x3_1 ∧ v4 = .int .i64 x4_1 ∧ Aside0 (portageref10_Number.l0 kq a0 x3_1 x4_1 = some r) ∧ Aside0 (kq ≤ k) ∧ Drawn0 w w')
 case atStart => exact ⟨(0), (wrap64 ((a0.size : Int) - 1)), (by first | rfl | (simp; done) | (simp [*]; done)), (by first | rfl | (simp; done) | (simp [*]; done)), H', ⟨Nat.le_refl _⟩, by repeat (first | exact Drawn0.refl _ | apply Drawn0.step)⟩
 case round =>
  clear H'
  obtain ⟨x3_1, x4_1, rfl, rfl, HA, HK1, ⟨m1, rfl⟩⟩ := hrel
  cases gk with
  | zero => exact absurd HA.out (by simp [portageref10_Number.l0])
  | succ k1 =>
   have H := HA.out
   clear HA
   simp only [portageref10_Number.l0] at H
   by_cases c2 : x4_1 ≥ 0
   rotate_left
   ·rw [if_neg c2] at H
    have c2b0 : decide (0 ≤ x4_1) = false := decide_eq_false c2
    clear c2
    obtain rfl := Option.some.inj H
    go_wp2
    go_ret
    exact ⟨by first | rfl | (simp; done) | (simp [*]; done), by repeat (first | exact Drawn0.refl _ | apply Drawn0.step)⟩
   rw [if_pos c2] at H
   have c2b0 : decide (0 ≤ x4_1) = true := decide_eq_true c2
   clear c2
   by_cases c3 : 0 ≤ x4_1
   rotate_left
   ·rw [if_neg c3] at H
    exact absurd H (by simp)
   rw [if_pos c3] at H
   have c3b0 : decide (0 ≤ x4_1) = true := decide_eq_true c3
   clear c3
   by_cases c4 : x4_1 < (a0.size : Int)
   rotate_left
   ·rw [if_neg c4] at H
    exact absurd H (by simp)
   rw [if_pos c4] at H
   have c4b0 : decide (x4_1 < (a0.size : Int)) = true := decide_eq_true c4
   clear c4
   have H' := qas H
   clear H
   have p5 : 0 ≤ (x4_1 : Int) := qde (by first | (with_reducible assumption) | assumption)
   have q5 : x4_1 < (a0.size : Int) := qde (by first | (with_reducible assumption) | assumption)
   have hx5 := bt_at a0 x4_1
   replace p5 := eq_true p5
   replace q5 := eq_true q5
   go_wp2
   go_roundg k1
   case measure => have := HK1.out; omega
   case rel => exact ⟨(Go.bits .or .i64 (wrap64 (x3_1 * 256)) (wrap64 (bt a0 x4_1))), (wrap64 (x4_1 - 1)), (by first | rfl | (simp; done) | (simp [*]; done)), (by first | rfl | (simp; done) | (simp [*]; done)), H', ⟨by have := HK1.out; omega⟩, by repeat (first | exact Drawn0.refl _ | apply Drawn0.step)⟩

end Go.Proofs.YtneogampbohfnaaDoor.ZP
