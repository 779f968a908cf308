-- Written by a program of this session out of the translation (a changed copy of the kit's printer).
import Derived.Test.YtnjbbfcknijcnaaF0
import Derived.Test.YtnjbbfcknijcnaaF1
import Derived.Test.YtnjbbfcknijcnaaF3
import Derived.Test.YtnjbbfcknijcnaaF5
import Derived.Test.YtnjbbfcknijcnaaF6
namespace Go.Proofs.Ytnjbbfcknijcnaa.F
open Go.RowKit Go.Proofs.YtnjbbfcknijcnaaW.PrintWords Go.Proofs.YtnjbbfcknijcnaaW.PrintLast Go.Proofs.YtnjbbfcknijcnaaW.PrintMore
attribute [local go_sem] max2_int min2_int max_two min_two max_three min_three max_four min_four   -- for this text's walks alone
set_option linter.unusedVariables false
set_option linter.unusedSimpArgs false

/-! ### portagelaw12_ExtraForms: function 20 -/
mutual
def portagelaw12_ExtraForms.j0 : Nat → Int → Int → ByteArray → Bool → ByteArray → Bool → List Int → Int → Int → Int → ByteArray → Int → Int → Option (Bool)
  | 0, _, _, _, _, _, _, _, _, _, _, _, _, _ => none
  | k + 1, x0, x5, x7, x34, x212000, x212001, x212002, x212003, x212004, x212005, x212006, x212007, x212008 => if x34 = true then (none) else ((portagelaw0_CopyEntry.f x212000 x212001 x212002 x212003 x212004 x212005 x212006 x212007 x212008).bind fun bt215 => (if (Int.tmod (IntKind.u64.wrap (x0)) 7) = 0 then (if 3 ≤ (bt215.2.2.1.length : Int) then (portagelaw12_ExtraForms.j1 k x0 x7 bt215.1 bt215.2.1 (bt215.2.2.1.take (3 : Int).toNat) bt215.2.2.2.1 bt215.2.2.2.2.1 bt215.2.2.2.2.2.1 bt215.2.2.2.2.2.2.1 bt215.2.2.2.2.2.2.2.1 bt215.2.2.2.2.2.2.2.2) else (none)) else (if (Int.tmod (IntKind.u64.wrap (x0)) 7) = 1 then (if 1 < (bt215.2.2.1.length : Int) then (portagelaw12_ExtraForms.j1 k x0 x7 bt215.1 bt215.2.1 (bt215.2.2.1.set (1 : Int).toNat (wrap64 (-x5))) bt215.2.2.2.1 bt215.2.2.2.2.1 bt215.2.2.2.2.2.1 bt215.2.2.2.2.2.2.1 bt215.2.2.2.2.2.2.2.1 bt215.2.2.2.2.2.2.2.2) else (none)) else (if (Int.tmod (IntKind.u64.wrap (x0)) 7) = 2 then (if 2 < (bt215.2.2.1.length : Int) then (portagelaw12_ExtraForms.j1 k x0 x7 bt215.1 bt215.2.1 (bt215.2.2.1.set (2 : Int).toNat (wrap64 (1048576 + x5))) bt215.2.2.2.1 bt215.2.2.2.2.1 bt215.2.2.2.2.2.1 bt215.2.2.2.2.2.2.1 bt215.2.2.2.2.2.2.2.1 bt215.2.2.2.2.2.2.2.2) else (none)) else (if (Int.tmod (IntKind.u64.wrap (x0)) 7) = 3 then (portagelaw12_ExtraForms.j1 k x0 x7 bt215.1 bt215.2.1 bt215.2.2.1 (wrap64 (1 - x5)) bt215.2.2.2.2.1 bt215.2.2.2.2.2.1 bt215.2.2.2.2.2.2.1 bt215.2.2.2.2.2.2.2.1 bt215.2.2.2.2.2.2.2.2) else (if (Int.tmod (IntKind.u64.wrap (x0)) 7) = 4 then (portagelaw12_ExtraForms.j1 k x0 x7 bt215.1 bt215.2.1 bt215.2.2.1 (wrap64 (1048576 + x5)) bt215.2.2.2.2.1 bt215.2.2.2.2.2.1 bt215.2.2.2.2.2.2.1 bt215.2.2.2.2.2.2.2.1 bt215.2.2.2.2.2.2.2.2) else (if (Int.tmod (IntKind.u64.wrap (x0)) 7) = 5 then (portagelaw12_ExtraForms.j1 k x0 x7 bt215.1 bt215.2.1 bt215.2.2.1 bt215.2.2.2.1 (wrap64 (-x5)) bt215.2.2.2.2.2.1 bt215.2.2.2.2.2.2.1 bt215.2.2.2.2.2.2.2.1 bt215.2.2.2.2.2.2.2.2) else (portagelaw12_ExtraForms.j1 k x0 x7 bt215.1 bt215.2.1 bt215.2.2.1 bt215.2.2.2.1 (wrap64 (3 + x5)) bt215.2.2.2.2.2.1 bt215.2.2.2.2.2.2.1 bt215.2.2.2.2.2.2.2.1 bt215.2.2.2.2.2.2.2.2))))))))
def portagelaw12_ExtraForms.j1 : Nat → Int → ByteArray → ByteArray → Bool → List Int → Int → Int → Int → ByteArray → Int → Int → Option (Bool)
  | 0, _, _, _, _, _, _, _, _, _, _, _ => none
  | k + 1, x0, x7, x227000, x227001, x227002, x227003, x227004, x227005, x227006, x227007, x227008 => (extra_Put.f k x227000 x227001 x227002 x227003 x227004 x227005 x227006 x227007 x227008).bind fun bt232 => (if 0 ≤ 25 then (if 25 ≤ (x7.size : Int) then (if x7.size + 1 ≤ 9223372036854775807 then (if 2 ≤ (x7.size : Int) then (if 2 + (x7.extract 2 x7.size).size ≤ 9223372036854775807 then (if 3 ≤ (x7.size : Int) then (if 3 + (x7.extract 3 x7.size).size ≤ 9223372036854775807 then (if 0 ≤ 24 then (if 24 ≤ (x7.size : Int) then (if (x7.extract 0 24).size + 2 ≤ 9223372036854775807 then (if (x7.extract 0 25).size + 1 ≤ 9223372036854775807 then (if 0 ≤ 20 then (if 20 ≤ (x7.size : Int) then (if (x7.extract 0 20).size + 4 ≤ 9223372036854775807 then (if ((x7.extract 0 20) ++ (⟨#[0, 0, 0, 0]⟩ : ByteArray)).size + (x7.extract 24 x7.size).size ≤ 9223372036854775807 then (if 0 ≤ 7 then (if 7 ≤ (x7.size : Int) then (if (x7.extract 0 7).size + 1 ≤ 9223372036854775807 then (if 8 ≤ (x7.size : Int) then (if ((x7.extract 0 7) ++ (⟨#[1]⟩ : ByteArray)).size + (x7.extract 8 x7.size).size ≤ 9223372036854775807 then ((some (([(⟨#[]⟩ : ByteArray), x7.extract 0 25, x7 ++ (⟨#[0]⟩ : ByteArray), (⟨#[112, 112]⟩ : ByteArray) ++ (x7.extract 2 x7.size), (⟨#[112, 80, 23]⟩ : ByteArray) ++ (x7.extract 3 x7.size), (x7.extract 0 24) ++ (⟨#[4, 0]⟩ : ByteArray), (x7.extract 0 25) ++ (⟨#[2]⟩ : ByteArray), ((x7.extract 0 20) ++ (⟨#[0, 0, 0, 0]⟩ : ByteArray)) ++ (x7.extract 24 x7.size), ((x7.extract 0 7) ++ (⟨#[1]⟩ : ByteArray)) ++ (x7.extract 8 x7.size)] : List ByteArray) : List ByteArray)).bind fun y234 => (if 0 ≤ (wrap64 (Int.tmod (IntKind.u64.wrap (x0)) 9)) then (if (wrap64 (Int.tmod (IntKind.u64.wrap (x0)) 9)) < (y234.length : Int) then ((extra_Get.f k (rdOf ByteArray.empty y234 (wrap64 (Int.tmod (IntKind.u64.wrap (x0)) 9)))).bind fun bt238 => (if bt232.1.toList = ([] : List UInt8) then ((portagelaw0_Num.f bt232.2).bind fun t251 => (if t251 = 1200 then ((portagelaw0_SameEntry.f k bt238.1 bt238.2.1 bt238.2.2.1 bt238.2.2.2.1 bt238.2.2.2.2.1 bt238.2.2.2.2.2.1 bt238.2.2.2.2.2.2.1 bt238.2.2.2.2.2.2.2.1 bt238.2.2.2.2.2.2.2.2.1 (⟨#[]⟩ : ByteArray) false ([] : List Int) 0 0 0 (⟨#[]⟩ : ByteArray) 0 0).bind fun t252 => (if t252 = true then ((portagelaw0_Num.f bt238.2.2.2.2.2.2.2.2.2).bind fun t253 => (some (t253 == 1200))) else (none))) else (none))) else (none))) else (none)) else (none))) else (none)) else (none)) else (none)) else (none)) else (none)) else (none)) else (none)) else (none)) else (none)) else (none)) else (none)) else (none)) else (none)) else (none)) else (none)) else (none)) else (none)) else (none)) else (none)) else (none))
end
def portagelaw12_ExtraForms.f (k : Nat) (a0 : Int) (a1 : Int) : Option (Bool) := (portagelaw12_awake.f k).bind fun t207 => (if t207 = true then ((some (([1, 2, 3, 4] : List Int) : List Int)).bind fun y208 => ((extra_Put.f k (⟨#[]⟩ : ByteArray) false y208 5 3 0 (⟨#[]⟩ : ByteArray) 0 0).bind fun bt212 => ((portagelaw0_Num.f bt212.2).bind fun t214 => (if t214 = 0 then (portagelaw12_ExtraForms.j0 k a0 (wrap64 (1 + (Go.bits .and .i64 a1 1023))) bt212.1 ((bt212.1.size : Int) != 26) (⟨#[]⟩ : ByteArray) false y208 5 3 0 (⟨#[]⟩ : ByteArray) 0 0) else (portagelaw12_ExtraForms.j0 k a0 (wrap64 (1 + (Go.bits .and .i64 a1 1023))) bt212.1 true (⟨#[]⟩ : ByteArray) false y208 5 3 0 (⟨#[]⟩ : ByteArray) 0 0))))) else (none))
theorem portagelaw12_ExtraForms.mono_l : ∀ k, (∀ y0 y1 y2 y3 y4 y5 y6 y7 y8 y9 y10 y11 y12, LeO (portagelaw12_ExtraForms.j0 k y0 y1 y2 y3 y4 y5 y6 y7 y8 y9 y10 y11 y12) (portagelaw12_ExtraForms.j0 (k + 1) y0 y1 y2 y3 y4 y5 y6 y7 y8 y9 y10 y11 y12)) ∧ (∀ y0 y1 y2 y3 y4 y5 y6 y7 y8 y9 y10, LeO (portagelaw12_ExtraForms.j1 k y0 y1 y2 y3 y4 y5 y6 y7 y8 y9 y10) (portagelaw12_ExtraForms.j1 (k + 1) y0 y1 y2 y3 y4 y5 y6 y7 y8 y9 y10))
  | 0 => ⟨fun _ _ _ _ _ _ _ _ _ _ _ _ _ r h => by simp [portagelaw12_ExtraForms.j0] at h, fun _ _ _ _ _ _ _ _ _ _ _ r h => by simp [portagelaw12_ExtraForms.j1] at h⟩
  | k + 1 => by
    obtain ⟨ih0, ih1⟩ := portagelaw12_ExtraForms.mono_l k
    refine ⟨?_, ?_⟩
    · intro y0 y1 y2 y3 y4 y5 y6 y7 y8 y9 y10 y11 y12
      unfold portagelaw12_ExtraForms.j0
      repeat' first
      | (with_reducible exact ih0 _ _ _ _ _ _ _ _ _ _ _ _ _)
      | (with_reducible exact ih1 _ _ _ _ _ _ _ _ _ _ _)
      | (with_reducible exact extra_Get.mono _ _)
      | (with_reducible exact extra_Put.mono _ _ _ _ _ _ _ _ _ _)
      | (with_reducible exact portagelaw0_SameEntry.mono _ _ _ _ _ _ _ _ _ _ _ _ _ _ _ _ _ _ _)
      | (with_reducible exact portagelaw12_awake.mono _)
      | (with_reducible exact LeO.refl _)
      | (with_reducible exact LeO.none _)
      | (with_reducible refine LeO.ite ?_ ?_)
      | (with_reducible refine LeO.bind ?_ (fun _ => ?_))
      | exact ih0 _ _ _ _ _ _ _ _ _ _ _ _ _
      | exact ih1 _ _ _ _ _ _ _ _ _ _ _
      | exact extra_Get.mono _ _
      | exact extra_Put.mono _ _ _ _ _ _ _ _ _ _
      | exact portagelaw0_SameEntry.mono _ _ _ _ _ _ _ _ _ _ _ _ _ _ _ _ _ _ _
      | exact portagelaw12_awake.mono _
      | exact LeO.none _
      | refine LeO.ite ?_ ?_
      | refine LeO.bind ?_ (fun _ => ?_)
    · intro y0 y1 y2 y3 y4 y5 y6 y7 y8 y9 y10
      unfold portagelaw12_ExtraForms.j1
      repeat' first
      | (with_reducible exact ih0 _ _ _ _ _ _ _ _ _ _ _ _ _)
      | (with_reducible exact ih1 _ _ _ _ _ _ _ _ _ _ _)
      | (with_reducible exact extra_Get.mono _ _)
      | (with_reducible exact extra_Put.mono _ _ _ _ _ _ _ _ _ _)
      | (with_reducible exact portagelaw0_SameEntry.mono _ _ _ _ _ _ _ _ _ _ _ _ _ _ _ _ _ _ _)
      | (with_reducible exact portagelaw12_awake.mono _)
      | (with_reducible exact LeO.refl _)
      | (with_reducible exact LeO.none _)
      | (with_reducible refine LeO.ite ?_ ?_)
      | (with_reducible refine LeO.bind ?_ (fun _ => ?_))
      | exact ih0 _ _ _ _ _ _ _ _ _ _ _ _ _
      | exact ih1 _ _ _ _ _ _ _ _ _ _ _
      | exact extra_Get.mono _ _
      | exact extra_Put.mono _ _ _ _ _ _ _ _ _ _
      | exact portagelaw0_SameEntry.mono _ _ _ _ _ _ _ _ _ _ _ _ _ _ _ _ _ _ _
      | exact portagelaw12_awake.mono _
      | exact LeO.none _
      | refine LeO.ite ?_ ?_
      | refine LeO.bind ?_ (fun _ => ?_)
theorem portagelaw12_ExtraForms.mono : ∀ a0 a1 k, LeO (portagelaw12_ExtraForms.f k a0 a1) (portagelaw12_ExtraForms.f (k + 1) a0 a1) := by
  intro a0 a1 k
  obtain ⟨ih0, ih1⟩ := portagelaw12_ExtraForms.mono_l k
  unfold portagelaw12_ExtraForms.f
  repeat' first
      | (with_reducible exact ih0 _ _ _ _ _ _ _ _ _ _ _ _ _)
      | (with_reducible exact ih1 _ _ _ _ _ _ _ _ _ _ _)
      | (with_reducible exact extra_Get.mono _ _)
      | (with_reducible exact extra_Put.mono _ _ _ _ _ _ _ _ _ _)
      | (with_reducible exact portagelaw0_SameEntry.mono _ _ _ _ _ _ _ _ _ _ _ _ _ _ _ _ _ _ _)
      | (with_reducible exact portagelaw12_awake.mono _)
      | (with_reducible exact LeO.refl _)
      | (with_reducible exact LeO.none _)
      | (with_reducible refine LeO.ite ?_ ?_)
      | (with_reducible refine LeO.bind ?_ (fun _ => ?_))
      | exact ih0 _ _ _ _ _ _ _ _ _ _ _ _ _
      | exact ih1 _ _ _ _ _ _ _ _ _ _ _
      | exact extra_Get.mono _ _
      | exact extra_Put.mono _ _ _ _ _ _ _ _ _ _
      | exact portagelaw0_SameEntry.mono _ _ _ _ _ _ _ _ _ _ _ _ _ _ _ _ _ _ _
      | exact portagelaw12_awake.mono _
      | exact LeO.none _
      | refine LeO.ite ?_ ?_
      | refine LeO.bind ?_ (fun _ => ?_)
def portagelaw12_ExtraForms.T24 : Bool × List (List Nat × List Nat) := (true, [([], []), ([0], [0]), ([], []), ([2], [2]), ([], []), ([4], [4]), ([5], [5]), ([], []), ([7], [7]), ([8], [8]), ([], []), ([10], [10]), ([11], [11]), ([], []), ([13], [13]), ([14], [14]), ([], []), ([16], [16]), ([17], [17]), ([], []), ([19], [19]), ([18, 20], [18, 20]), ([], []), ([22], [22]), ([23], [23]), ([], []), ([25], [25]), ([24, 26], [24, 26]), ([1, 3, 6, 9, 12, 15, 21, 27], [1, 3, 6, 9, 12, 15, 21, 27]), ([28, 0, 1, 2, 3, 4, 5, 6, 7, 8, 9, 10, 11, 12, 13, 14, 15, 16, 17, 18, 19, 20, 21, 22, 23, 24, 25, 26, 27, 28], [28])])
def portagelaw12_ExtraForms.B24 : List Nat := [0, 1, 0, 4, 0, 16, 48, 0, 128, 384, 0, 1024, 3072, 0, 8192, 24576, 0, 65536, 196608, 0, 524288, 2031616, 0, 4194304, 12582912, 0, 33554432, 130023424, 268435455, 536870911]
theorem portagelaw12_ExtraForms.tab24 : rtab .any (opsOf Try.f20 24) = portagelaw12_ExtraForms.T24 := by kernel_rfl
theorem portagelaw12_ExtraForms.bits24 : waitsOk portagelaw12_ExtraForms.T24.2 portagelaw12_ExtraForms.B24 = true := by kernel_rfl
set_option maxHeartbeats 8000000 in
set_option maxRecDepth 100000 in
theorem portagelaw12_ExtraForms.calls (k : Nat) (a0 : Int) (a1 : Int) (r : Bool) (w : World) (h : portagelaw12_ExtraForms.f k a0 a1 = some r) :
    Calls Try.prog 20 #[.int .i64 a0, .int .i64 a1] w fun e w' => e = .returned (.bool r) ∧ Below w.heap.size w w' := by
  have hu75 := Try.underlying75
  have HB := Aside0.mk (Below.refl w.heap.size w)
  have H : ((portagelaw12_awake.f k).bind fun t207 => (if t207 = true then ((some (([1, 2, 3, 4] : List Int) : List Int)).bind fun y208 => ((extra_Put.f k (⟨#[]⟩ : ByteArray) false y208 5 3 0 (⟨#[]⟩ : ByteArray) 0 0).bind fun bt212 => ((portagelaw0_Num.f bt212.2).bind fun t214 => (if t214 = 0 then (portagelaw12_ExtraForms.j0 k a0 (wrap64 (1 + (Go.bits .and .i64 a1 1023))) bt212.1 ((bt212.1.size : Int) != 26) (⟨#[]⟩ : ByteArray) false y208 5 3 0 (⟨#[]⟩ : ByteArray) 0 0) else (portagelaw12_ExtraForms.j0 k a0 (wrap64 (1 + (Go.bits .and .i64 a1 1023))) bt212.1 true (⟨#[]⟩ : ByteArray) false y208 5 3 0 (⟨#[]⟩ : ByteArray) 0 0))))) else (none))) = some r := h
  clear h
  replace H := Option.bind_eq_some_iff.mp H
  obtain ⟨t207, A30, H⟩ := H
  replace H : (if t207 = true then ((some (([1, 2, 3, 4] : List Int) : List Int)).bind fun y208 => ((extra_Put.f k (⟨#[]⟩ : ByteArray) false y208 5 3 0 (⟨#[]⟩ : ByteArray) 0 0).bind fun bt212 => ((portagelaw0_Num.f bt212.2).bind fun t214 => (if t214 = 0 then (portagelaw12_ExtraForms.j0 k a0 (wrap64 (1 + (Go.bits .and .i64 a1 1023))) bt212.1 ((bt212.1.size : Int) != 26) (⟨#[]⟩ : ByteArray) false y208 5 3 0 (⟨#[]⟩ : ByteArray) 0 0) else (portagelaw12_ExtraForms.j0 k a0 (wrap64 (1 + (Go.bits .and .i64 a1 1023))) bt212.1 true (⟨#[]⟩ : ByteArray) false y208 5 3 0 (⟨#[]⟩ : ByteArray) 0 0))))) else (none)) = some r := H
  have A3 := Aside0.mk A30
  clear A30
  by_cases c4 : t207 = true
  · subst c4
    have H1 : ((some (([1, 2, 3, 4] : List Int) : List Int)).bind fun y208 => ((extra_Put.f k (⟨#[]⟩ : ByteArray) false y208 5 3 0 (⟨#[]⟩ : ByteArray) 0 0).bind fun bt212 => ((portagelaw0_Num.f bt212.2).bind fun t214 => (if t214 = 0 then (portagelaw12_ExtraForms.j0 k a0 (wrap64 (1 + (Go.bits .and .i64 a1 1023))) bt212.1 ((bt212.1.size : Int) != 26) (⟨#[]⟩ : ByteArray) false y208 5 3 0 (⟨#[]⟩ : ByteArray) 0 0) else (portagelaw12_ExtraForms.j0 k a0 (wrap64 (1 + (Go.bits .and .i64 a1 1023))) bt212.1 true (⟨#[]⟩ : ByteArray) false y208 5 3 0 (⟨#[]⟩ : ByteArray) 0 0))))) = some r := by rw [if_pos rfl] at H; exact H
    clear H
    have H := H1
    clear H1
    obtain ⟨y208, hy208⟩ : ∃ y_ : List Int, y_ = (([1, 2, 3, 4] : List Int)) := ⟨_, rfl⟩
    replace H : ((extra_Put.f k (⟨#[]⟩ : ByteArray) false y208 5 3 0 (⟨#[]⟩ : ByteArray) 0 0).bind fun bt212 => ((portagelaw0_Num.f bt212.2).bind fun t214 => (if t214 = 0 then (portagelaw12_ExtraForms.j0 k a0 (wrap64 (1 + (Go.bits .and .i64 a1 1023))) bt212.1 ((bt212.1.size : Int) != 26) (⟨#[]⟩ : ByteArray) false y208 5 3 0 (⟨#[]⟩ : ByteArray) 0 0) else (portagelaw12_ExtraForms.j0 k a0 (wrap64 (1 + (Go.bits .and .i64 a1 1023))) bt212.1 true (⟨#[]⟩ : ByteArray) false y208 5 3 0 (⟨#[]⟩ : ByteArray) 0 0)))) = some r := by first | (rw [hy208]; with_reducible exact H) | (have H2_ := (Option.bind_some _ _).symm.trans H; rw [hy208]; with_reducible exact H2_) | (have H2_ := (Option.bind_some _ _).symm.trans H; with_reducible exact H2_) | with_reducible exact H | (rw [hy208]; exact H) | exact H
    have Ny208 := Aside0.mk hy208
    clear hy208
    replace H := Option.bind_eq_some_iff.mp H
    obtain ⟨⟨t212, t213⟩, A50, H⟩ := H
    replace H : ((portagelaw0_Num.f t213).bind fun t214 => (if t214 = 0 then (portagelaw12_ExtraForms.j0 k a0 (wrap64 (1 + (Go.bits .and .i64 a1 1023))) t212 ((t212.size : Int) != 26) (⟨#[]⟩ : ByteArray) false y208 5 3 0 (⟨#[]⟩ : ByteArray) 0 0) else (portagelaw12_ExtraForms.j0 k a0 (wrap64 (1 + (Go.bits .and .i64 a1 1023))) t212 true (⟨#[]⟩ : ByteArray) false y208 5 3 0 (⟨#[]⟩ : ByteArray) 0 0))) = some r := H
    have A5 := Aside0.mk A50
    clear A50
    have HC6 := Aside0.mk H
    clear H
    go_enter Try.func20, Try.ntmps20
    go_upto_region 6 with (first | ((with_reducible refine gate_callee (f := 67) rfl ?_); refine goesL_ (some 15) rfl rfl Try.func67 (by kernel_rfl) rfl #[] rfl (by (try simp only [List.map_toArray, List.map_cons, List.map_nil]); first | done | rfl | (simp only [List.length_drop, List.length_take]; rfl)) ?_; (with_reducible refine (portagelaw12_awake.calls k  true _ A3.out).mono ?_); rintro e w7 ⟨rfl, hb⟩; refine ⟨_, rfl, ?_⟩; have n0_ := Aside0.mk (below_step (by repeat (first | (with_reducible first | exact HB.out | apply below_alloc | apply pw_below_drewN | apply below_drew1) | exact HB.out)) hb); clear HB; have HB := n0_; clear n0_; (try clear hb); (try clear hb2); (try clear hk); (try clear hi)) | ((with_reducible refine gate_dst (N := 20) rfl ?_); (try (refine gate_guard (by rfl) ?_; dsimp only)); refine Kd.R_lit (Kd.int .i64) _ 3 ?hg (N := 20) ?hd (xs := ([1, 2, 3, 4] : List Int)) (inner := [.int .i64 1, .int .i64 2, .int .i64 3, .int .i64 4]) (ok := fun _ => True) (okp := fun _ => True) ?hr ?hp (fun _ hk => hk) trivial (Below.refl _ _) (Nat.le_refl _) (by simp) ?_; (case hd => rfl); (case hg => rfl); (case hr => first | (go_simp; done) | (go_simp; rfl)); (case hp => exact (Reps.one (show Kd.M (Kd.int .i64) _ _ _ 1 [.int .i64 1] from rfl) (Reps.one (show Kd.M (Kd.int .i64) _ _ _ 2 [.int .i64 2] from rfl) (Reps.one (show Kd.M (Kd.int .i64) _ _ _ 3 [.int .i64 3] from rfl) (Reps.one (show Kd.M (Kd.int .i64) _ _ _ 4 [.int .i64 4] from rfl) (Reps.none _ _)))))); intro v209 w8 ho9 hb hg_ hnew_; clear hg_ hnew_; (first | rw [← Ny208.out] at ho9 | (simp only [Int.reduceToNat] at ho9; rw [← Ny208.out] at ho9)); have n0_ := Aside0.mk (Kd.R_lower ho9 (below_size (by repeat (first | (with_reducible first | exact HB.out | apply below_alloc | apply pw_below_drewN | apply below_drew1) | exact HB.out)))); have n1_ := Aside0.mk (below_step (by repeat (first | (with_reducible first | exact HB.out | apply below_alloc | apply pw_below_drewN | apply below_drew1) | exact HB.out)) hb); clear HB; have HO210 := n0_; have HB := n1_; clear n0_ n1_; clear hb ho9; obtain ⟨Ao10, co10, eo10⟩ := Kd.R_slice HO210.out; subst eo10) | ((with_reducible refine gate_dst (N := 6) rfl ?_); (try (refine gate_guard (by rfl) ?_; dsimp only)); refine box_event ?hg (N := 6) ?hd (cs := #[.string (⟨#[]⟩ : ByteArray), .bool false, .slice none 0 0, .int .i64 0, .int .i64 0, .int .i64 0, .string (⟨#[]⟩ : ByteArray), .int .i64 0, .int .i64 0]) (t := 75) ?hr ?_; (case hd => rfl); (case hg => rfl); (case hr => first | (go_simp; done) | (go_simp; rfl)); intro gb211 hg w11 hbox hb; have n0_ := Aside0.mk (Kd.R_below (by (with_reducible repeat (first | apply Kd.R_alloc | apply Kd.R_drewN | apply Kd.R_drew)); exact HO210.out) hb); have n1_ := Aside0.mk (below_step (by repeat (first | (with_reducible first | exact HB.out | apply below_alloc | apply pw_below_drewN | apply below_drew1) | exact HB.out)) hb); have n2_ := Aside0.mk (hbox); have n3_ := Aside0.mk ((by rw [hg]; exact (below_size (by repeat (first | (with_reducible first | exact HB.out | apply below_alloc | apply pw_below_drewN | apply below_drew1) | exact HB.out))) : w.heap.size ≤ gb211)); have n4_ := Aside0.mk ((by rw [hg]; exact (below_size (by repeat (first | (with_reducible first | exact HB.out | apply below_alloc | apply pw_below_drewN | apply below_drew1) | exact HB.out))) : w.heap.size ≤ gb211)); clear HO210; clear HB; have HO210 := n0_; have HB := n1_; have BK211 := n2_; have GW211 := n3_; have GE211 := n4_; clear n0_ n1_ n2_ n3_ n4_; clear hb hbox hg; have hcz12_0 : w11.cell? ⟨gb211, 0, none⟩ = some (.string (⟨#[]⟩ : ByteArray)) := (blk_cell BK211.out 0).trans rfl; have hcz12_1 : w11.cell? ⟨gb211, 1, none⟩ = some (.bool false) := (blk_cell BK211.out 1).trans rfl; have hcz12_2 : w11.cell? ⟨gb211, 2, none⟩ = some (.slice none 0 0) := (blk_cell BK211.out 2).trans rfl; have hcz12_3 : w11.cell? ⟨gb211, 3, none⟩ = some (.int .i64 0) := (blk_cell BK211.out 3).trans rfl; have hcz12_4 : w11.cell? ⟨gb211, 4, none⟩ = some (.int .i64 0) := (blk_cell BK211.out 4).trans rfl; have hcz12_5 : w11.cell? ⟨gb211, 5, none⟩ = some (.int .i64 0) := (blk_cell BK211.out 5).trans rfl; have hcz12_6 : w11.cell? ⟨gb211, 6, none⟩ = some (.string (⟨#[]⟩ : ByteArray)) := (blk_cell BK211.out 6).trans rfl; have hcz12_7 : w11.cell? ⟨gb211, 7, none⟩ = some (.int .i64 0) := (blk_cell BK211.out 7).trans rfl; have hcz12_8 : w11.cell? ⟨gb211, 8, none⟩ = some (.int .i64 0) := (blk_cell BK211.out 8).trans rfl; have hfz12_0 := blk_frozen BK211.out 0; have hfz12_1 := blk_frozen BK211.out 1; have hfz12_2 := blk_frozen BK211.out 2; have hfz12_3 := blk_frozen BK211.out 3; have hfz12_4 := blk_frozen BK211.out 4; have hfz12_5 := blk_frozen BK211.out 5; have hfz12_6 := blk_frozen BK211.out 6; have hfz12_7 := blk_frozen BK211.out 7; have hfz12_8 := blk_frozen BK211.out 8) | ((with_reducible refine gate_store (t := 75) (p := 6) rfl ?_); refine store_event (t := 75) (p := 6) (v := ?vo_w13) (w1 := (((((((((w11.setCell ⟨gb211, 0, none⟩ (.string (⟨#[]⟩ : ByteArray))).setCell ⟨gb211, 1, none⟩ (.bool false)).setCell ⟨gb211, 2, none⟩ (.slice Ao10 y208.length co10)).setCell ⟨gb211, 3, none⟩ (.int .i64 5)).setCell ⟨gb211, 4, none⟩ (.int .i64 3)).setCell ⟨gb211, 5, none⟩ (.int .i64 0)).setCell ⟨gb211, 6, none⟩ (.string (⟨#[]⟩ : ByteArray))).setCell ⟨gb211, 7, none⟩ (.int .i64 0)).setCell ⟨gb211, 8, none⟩ (.int .i64 0))) ?hg ?ho ?hn ?hr ?_; (case ho => rfl); (case hg => rfl); (case hn => rfl); (case hr => first | (go_simp; done) | (go_simp; rfl)); intro w13 hw; have n0_ : Aside0 (Kd.R (Kd.int .i64) 3 w13 w.heap.size (fun _ => True) (.slice Ao10 y208.length co10) y208) := ⟨(by rw [hw]; exact (by (with_reducible repeat (first | apply Kd.R_alloc | apply Kd.R_drewN | apply Kd.R_drew)); exact Kd.R_mono (Kd.R_far (p := ⟨gb211, 8, none⟩) (Kd.R_far (p := ⟨gb211, 7, none⟩) (Kd.R_far (p := ⟨gb211, 6, none⟩) (Kd.R_far (p := ⟨gb211, 5, none⟩) (Kd.R_far (p := ⟨gb211, 4, none⟩) (Kd.R_far (p := ⟨gb211, 3, none⟩) (Kd.R_far (p := ⟨gb211, 2, none⟩) (Kd.R_far (p := ⟨gb211, 1, none⟩) (Kd.R_far (p := ⟨gb211, 0, none⟩) (Kd.R_types HO210.out BK211.out (by decide)) (fun _ hk => hk.2) (.string (⟨#[]⟩ : ByteArray))) (fun _ hk => hk.2) (.bool false)) (fun _ hk => hk.2) (.slice Ao10 y208.length co10)) (fun _ hk => hk.2) (.int .i64 5)) (fun _ hk => hk.2) (.int .i64 3)) (fun _ hk => hk.2) (.int .i64 0)) (fun _ hk => hk.2) (.string (⟨#[]⟩ : ByteArray))) (fun _ hk => hk.2) (.int .i64 0)) (fun _ hk => hk.2) (.int .i64 0)) (fun _ hk => trivial)))⟩; have n1_ : Aside0 (w13.heap[gb211]? = some (.cells #[.string (⟨#[]⟩ : ByteArray), .bool false, .slice Ao10 y208.length co10, .int .i64 5, .int .i64 3, .int .i64 0, .string (⟨#[]⟩ : ByteArray), .int .i64 0, .int .i64 0] 75 (0, 0))) := ⟨(by rw [hw]; exact (by (with_reducible repeat (first | refine blk_drewN ?_ _ | refine blk_drew ?_ | refine blk_alloc ?_ _)); refine blk_put (cs := #[.string (⟨#[]⟩ : ByteArray), .bool false, .slice Ao10 y208.length co10, .int .i64 5, .int .i64 3, .int .i64 0, .string (⟨#[]⟩ : ByteArray), .int .i64 0, .int .i64 0]) ?_ 8 _ rfl; (with_reducible repeat (first | refine blk_drewN ?_ _ | refine blk_drew ?_ | refine blk_alloc ?_ _)); refine blk_put (cs := #[.string (⟨#[]⟩ : ByteArray), .bool false, .slice Ao10 y208.length co10, .int .i64 5, .int .i64 3, .int .i64 0, .string (⟨#[]⟩ : ByteArray), .int .i64 0, .int .i64 0]) ?_ 7 _ rfl; (with_reducible repeat (first | refine blk_drewN ?_ _ | refine blk_drew ?_ | refine blk_alloc ?_ _)); refine blk_put (cs := #[.string (⟨#[]⟩ : ByteArray), .bool false, .slice Ao10 y208.length co10, .int .i64 5, .int .i64 3, .int .i64 0, .string (⟨#[]⟩ : ByteArray), .int .i64 0, .int .i64 0]) ?_ 6 _ rfl; (with_reducible repeat (first | refine blk_drewN ?_ _ | refine blk_drew ?_ | refine blk_alloc ?_ _)); refine blk_put (cs := #[.string (⟨#[]⟩ : ByteArray), .bool false, .slice Ao10 y208.length co10, .int .i64 5, .int .i64 3, .int .i64 0, .string (⟨#[]⟩ : ByteArray), .int .i64 0, .int .i64 0]) ?_ 5 _ rfl; (with_reducible repeat (first | refine blk_drewN ?_ _ | refine blk_drew ?_ | refine blk_alloc ?_ _)); refine blk_put (cs := #[.string (⟨#[]⟩ : ByteArray), .bool false, .slice Ao10 y208.length co10, .int .i64 5, .int .i64 0, .int .i64 0, .string (⟨#[]⟩ : ByteArray), .int .i64 0, .int .i64 0]) ?_ 4 _ rfl; (with_reducible repeat (first | refine blk_drewN ?_ _ | refine blk_drew ?_ | refine blk_alloc ?_ _)); refine blk_put (cs := #[.string (⟨#[]⟩ : ByteArray), .bool false, .slice Ao10 y208.length co10, .int .i64 0, .int .i64 0, .int .i64 0, .string (⟨#[]⟩ : ByteArray), .int .i64 0, .int .i64 0]) ?_ 3 _ rfl; (with_reducible repeat (first | refine blk_drewN ?_ _ | refine blk_drew ?_ | refine blk_alloc ?_ _)); refine blk_put (cs := #[.string (⟨#[]⟩ : ByteArray), .bool false, .slice none 0 0, .int .i64 0, .int .i64 0, .int .i64 0, .string (⟨#[]⟩ : ByteArray), .int .i64 0, .int .i64 0]) ?_ 2 _ rfl; (with_reducible repeat (first | refine blk_drewN ?_ _ | refine blk_drew ?_ | refine blk_alloc ?_ _)); refine blk_put (cs := #[.string (⟨#[]⟩ : ByteArray), .bool false, .slice none 0 0, .int .i64 0, .int .i64 0, .int .i64 0, .string (⟨#[]⟩ : ByteArray), .int .i64 0, .int .i64 0]) ?_ 1 _ rfl; (with_reducible repeat (first | refine blk_drewN ?_ _ | refine blk_drew ?_ | refine blk_alloc ?_ _)); refine blk_put (cs := #[.string (⟨#[]⟩ : ByteArray), .bool false, .slice none 0 0, .int .i64 0, .int .i64 0, .int .i64 0, .string (⟨#[]⟩ : ByteArray), .int .i64 0, .int .i64 0]) ?_ 0 _ rfl; (with_reducible repeat (first | refine blk_drewN ?_ _ | refine blk_drew ?_ | refine blk_alloc ?_ _)); exact BK211.out))⟩; have n2_ : Aside0 (Below w.heap.size w w13) := ⟨(by rw [hw]; exact (by repeat (first | (with_reducible first | exact HB.out | apply below_alloc | apply pw_below_drewN | apply below_drew1 | refine below_set ?_ GE211.out) | exact HB.out)))⟩; clear hw; clear HO210; clear BK211; clear HB; have HO210 := n0_; have BK211 := n1_; have HB := n2_; clear n0_ n1_ n2_; have hcz14_0 : w13.cell? ⟨gb211, 0, none⟩ = some (.string (⟨#[]⟩ : ByteArray)) := (blk_cell BK211.out 0).trans rfl; have hcz14_1 : w13.cell? ⟨gb211, 1, none⟩ = some (.bool false) := (blk_cell BK211.out 1).trans rfl; have hcz14_2 : w13.cell? ⟨gb211, 2, none⟩ = some (.slice Ao10 y208.length co10) := (blk_cell BK211.out 2).trans rfl; have hcz14_3 : w13.cell? ⟨gb211, 3, none⟩ = some (.int .i64 5) := (blk_cell BK211.out 3).trans rfl; have hcz14_4 : w13.cell? ⟨gb211, 4, none⟩ = some (.int .i64 3) := (blk_cell BK211.out 4).trans rfl; have hcz14_5 : w13.cell? ⟨gb211, 5, none⟩ = some (.int .i64 0) := (blk_cell BK211.out 5).trans rfl; have hcz14_6 : w13.cell? ⟨gb211, 6, none⟩ = some (.string (⟨#[]⟩ : ByteArray)) := (blk_cell BK211.out 6).trans rfl; have hcz14_7 : w13.cell? ⟨gb211, 7, none⟩ = some (.int .i64 0) := (blk_cell BK211.out 7).trans rfl; have hcz14_8 : w13.cell? ⟨gb211, 8, none⟩ = some (.int .i64 0) := (blk_cell BK211.out 8).trans rfl; have hfz14_0 := blk_frozen BK211.out 0; have hfz14_1 := blk_frozen BK211.out 1; have hfz14_2 := blk_frozen BK211.out 2; have hfz14_3 := blk_frozen BK211.out 3; have hfz14_4 := blk_frozen BK211.out 4; have hfz14_5 := blk_frozen BK211.out 5; have hfz14_6 := blk_frozen BK211.out 6; have hfz14_7 := blk_frozen BK211.out 7; have hfz14_8 := blk_frozen BK211.out 8) | ((with_reducible refine gate_callee (f := 61) rfl ?_); refine goesL_ (some 24) rfl rfl Try.func61 (by kernel_rfl) rfl #[.agg #[.string (⟨#[]⟩ : ByteArray), .bool false, .slice Ao10 y208.length co10, .int .i64 5, .int .i64 3, .int .i64 0, .string (⟨#[]⟩ : ByteArray), .int .i64 0, .int .i64 0]] rfl (by (try simp only [List.map_toArray, List.map_cons, List.map_nil]); first | done | rfl | (simp only [List.length_drop, List.length_take]; rfl)) ?_; (with_reducible refine (extra_Put.calls k (⟨#[]⟩ : ByteArray) false _ _ y208 5 3 0 (⟨#[]⟩ : ByteArray) 0 0 t212 t213 _ ?side1 ?side2 A5.out).mono ?_); (case side1 => repeat (first | exact (Kd.R_reads' HO210.out).2.2 | (with_reducible refine Kd.C_alloc ?_ _) | (with_reducible refine Kd.C_drewN ?_ _) | (with_reducible refine Kd.C_drew ?_))); (case side2 => exact (Kd.R_reads' HO210.out).2.1); rintro e w15 ⟨rfl, hb⟩; refine ⟨_, rfl, ?_⟩; have n0_ := Aside0.mk (Kd.R_below (by (with_reducible repeat (first | apply Kd.R_alloc | apply Kd.R_drewN | apply Kd.R_drew)); exact HO210.out) hb); have n1_ := Aside0.mk (blk_below (g := gb211) (o := .cells #[.string (⟨#[]⟩ : ByteArray), .bool false, .slice Ao10 y208.length co10, .int .i64 5, .int .i64 3, .int .i64 0, .string (⟨#[]⟩ : ByteArray), .int .i64 0, .int .i64 0] 75 (0, 0)) (by (with_reducible repeat (first | refine blk_drewN ?_ _ | refine blk_drew ?_ | refine blk_alloc ?_ _)); exact BK211.out) hb); have n2_ := Aside0.mk (below_step (by repeat (first | (with_reducible first | exact HB.out | apply below_alloc | apply pw_below_drewN | apply below_drew1 | refine below_set ?_ GE211.out) | exact HB.out)) hb); clear HO210; clear BK211; clear HB; have HO210 := n0_; have BK211 := n1_; have HB := n2_; clear n0_ n1_ n2_; (try clear hb); (try clear hb2); (try clear hk); (try clear hi)))
    (try simp only [Act.put, List.setIfInBounds_toArray, List.set_cons_zero, List.set_cons_succ])
    go_cut [34] (fun v34 wc => ∃ (kq : Nat) (x34_5 : Bool), v34 = .bool x34_5 ∧ Aside0 (portagelaw12_ExtraForms.j0 kq a0 (wrap64 (1 + (Go.bits .and .i64 a1 1023))) t212 x34_5 (⟨#[]⟩ : ByteArray) false y208 5 3 0 (⟨#[]⟩ : ByteArray) 0 0 = some r) ∧ Aside0 (kq ≤ k) ∧ Aside0 (Kd.R (Kd.int .i64) 3 wc w.heap.size (fun _ => True) (.slice Ao10 y208.length co10) y208) ∧ Aside0 (wc.heap[gb211]? = some (.cells #[.string (⟨#[]⟩ : ByteArray), .bool false, (.slice Ao10 y208.length co10), .int .i64 5, .int .i64 3, .int .i64 0, .string (⟨#[]⟩ : ByteArray), .int .i64 0, .int .i64 0] 75 (0, 0))) ∧ Aside0 (Below w.heap.size w wc))
    case first =>
      have H := HC6.out
      clear HC6
      replace H := Option.bind_eq_some_iff.mp H
      obtain ⟨t214, A160, H⟩ := H
      replace H : (if t214 = 0 then (portagelaw12_ExtraForms.j0 k a0 (wrap64 (1 + (Go.bits .and .i64 a1 1023))) t212 ((t212.size : Int) != 26) (⟨#[]⟩ : ByteArray) false y208 5 3 0 (⟨#[]⟩ : ByteArray) 0 0) else (portagelaw12_ExtraForms.j0 k a0 (wrap64 (1 + (Go.bits .and .i64 a1 1023))) t212 true (⟨#[]⟩ : ByteArray) false y208 5 3 0 (⟨#[]⟩ : ByteArray) 0 0)) = some r := H
      have A16 := Aside0.mk A160
      clear A160
      by_cases c17 : t214 = 0
      · rw [if_pos c17] at H
        have c17b0 : (t214 == 0) = true := beq_iff_eq.mpr c17
        have c17b1 : (t214 != 0) = false := bne_eq_false_iff_eq.mpr c17
        clear c17
        (first | rw [c17b0] | (simp only [i64_w, i32_w]; rw [c17b0]) | skip)
        have H' := Aside0.mk H
        clear H
        go_wp2_with (first | ((with_reducible refine gate_callee (f := 34) rfl ?_); refine goesL_ (some 28) rfl rfl Try.func34 (by kernel_rfl) rfl #[.int .i64 t213] rfl (by (try simp only [List.map_toArray, List.map_cons, List.map_nil]); first | done | rfl | (simp only [List.length_drop, List.length_take]; rfl)) ?_; (with_reducible refine (portagelaw0_Num.calls t213 t214 _ A16.out).mono ?_); rintro e w' ⟨rfl, ⟨nd, rfl⟩⟩; refine ⟨_, rfl, ?_⟩))
        go_meet
        case rel => exact ⟨_, (((t212.size : Int) != 26)), (by first | rfl | (simp; done) | (simp [*]; done)), H', ⟨by first | omega | exact Nat.le_refl _⟩, ⟨by (with_reducible repeat (first | apply Kd.R_alloc | apply Kd.R_drewN | apply Kd.R_drew)); exact HO210.out⟩, ⟨by (with_reducible repeat (first | refine blk_drewN ?_ _ | refine blk_drew ?_ | refine blk_alloc ?_ _)); exact BK211.out⟩, ⟨by repeat (first | (with_reducible first | exact HB.out | apply below_alloc | apply pw_below_drewN | apply below_drew1 | refine below_set ?_ GE211.out) | exact HB.out)⟩⟩
      · rw [if_neg c17] at H
        have c17b0 : (t214 == 0) = false := beq_eq_false_iff_ne.mpr c17
        have c17b1 : (t214 != 0) = true := bne_iff_ne.mpr c17
        (first | rw [c17b0] | (simp only [i64_w, i32_w]; rw [c17b0]) | skip)
        have H' := Aside0.mk H
        clear H
        go_wp2_with (first | ((with_reducible refine gate_callee (f := 34) rfl ?_); refine goesL_ (some 28) rfl rfl Try.func34 (by kernel_rfl) rfl #[.int .i64 t213] rfl (by (try simp only [List.map_toArray, List.map_cons, List.map_nil]); first | done | rfl | (simp only [List.length_drop, List.length_take]; rfl)) ?_; (with_reducible refine (portagelaw0_Num.calls t213 t214 _ A16.out).mono ?_); rintro e w' ⟨rfl, ⟨nd, rfl⟩⟩; refine ⟨_, rfl, ?_⟩))
        go_meet
        case rel => exact ⟨_, (true), (by first | rfl | (simp; done) | (simp [*]; done)), H', ⟨by first | omega | exact Nat.le_refl _⟩, ⟨by (with_reducible repeat (first | apply Kd.R_alloc | apply Kd.R_drewN | apply Kd.R_drew)); exact HO210.out⟩, ⟨by (with_reducible repeat (first | refine blk_drewN ?_ _ | refine blk_drew ?_ | refine blk_alloc ?_ _)); exact BK211.out⟩, ⟨by repeat (first | (with_reducible first | exact HB.out | apply below_alloc | apply pw_below_drewN | apply below_drew1 | refine below_set ?_ GE211.out) | exact HB.out)⟩⟩
    case rest =>
      clear HC6
      try clear c1
      try clear c2
      try clear p2
      try clear c3
      try clear c4
      try clear c6
      try clear p6
      try clear c17
      try clear c17b0
      try clear c17b1
      try clear hcz12_0
      try clear hcz12_1
      try clear hcz12_2
      try clear hcz12_3
      try clear hcz12_4
      try clear hcz12_5
      try clear hcz12_6
      try clear hcz12_7
      try clear hcz12_8
      try clear hcz14_0
      try clear hcz14_1
      try clear hcz14_2
      try clear hcz14_3
      try clear hcz14_4
      try clear hcz14_5
      try clear hcz14_6
      try clear hcz14_7
      try clear hcz14_8
      try clear hfz12_0
      try clear hfz12_1
      try clear hfz12_2
      try clear hfz12_3
      try clear hfz12_4
      try clear hfz12_5
      try clear hfz12_6
      try clear hfz12_7
      try clear hfz12_8
      try clear hfz14_0
      try clear hfz14_1
      try clear hfz14_2
      try clear hfz14_3
      try clear hfz14_4
      try clear hfz14_5
      try clear hfz14_6
      try clear hfz14_7
      try clear hfz14_8
      obtain ⟨kq, x34_5, rfl, HA, HJ5, HO_212002, BK211, HB⟩ := hcut
      cases kq with
      | zero => exact absurd HA.out (by simp [portagelaw12_ExtraForms.j0])
      | succ kj5 =>
        have H := HA.out
        clear HA
        simp only [portagelaw12_ExtraForms.j0] at H
        by_cases c18 : x34_5 = true
        · subst c18
          have H1 : (none) = some r := by rw [if_pos rfl] at H; exact H
          clear H
          have H := H1
          clear H1
          exact absurd H (by simp)
        · replace c18 := Bool.eq_false_iff.mpr c18
          subst c18
          have H1 : ((portagelaw0_CopyEntry.f (⟨#[]⟩ : ByteArray) false y208 5 3 0 (⟨#[]⟩ : ByteArray) 0 0).bind fun bt215 => (if (Int.tmod (IntKind.u64.wrap (a0)) 7) = 0 then (if 3 ≤ (bt215.2.2.1.length : Int) then (portagelaw12_ExtraForms.j1 kj5 a0 t212 bt215.1 bt215.2.1 (bt215.2.2.1.take (3 : Int).toNat) bt215.2.2.2.1 bt215.2.2.2.2.1 bt215.2.2.2.2.2.1 bt215.2.2.2.2.2.2.1 bt215.2.2.2.2.2.2.2.1 bt215.2.2.2.2.2.2.2.2) else (none)) else (if (Int.tmod (IntKind.u64.wrap (a0)) 7) = 1 then (if 1 < (bt215.2.2.1.length : Int) then (portagelaw12_ExtraForms.j1 kj5 a0 t212 bt215.1 bt215.2.1 (bt215.2.2.1.set (1 : Int).toNat (wrap64 (-(wrap64 (1 + (Go.bits .and .i64 a1 1023)))))) bt215.2.2.2.1 bt215.2.2.2.2.1 bt215.2.2.2.2.2.1 bt215.2.2.2.2.2.2.1 bt215.2.2.2.2.2.2.2.1 bt215.2.2.2.2.2.2.2.2) else (none)) else (if (Int.tmod (IntKind.u64.wrap (a0)) 7) = 2 then (if 2 < (bt215.2.2.1.length : Int) then (portagelaw12_ExtraForms.j1 kj5 a0 t212 bt215.1 bt215.2.1 (bt215.2.2.1.set (2 : Int).toNat (wrap64 (1048576 + (wrap64 (1 + (Go.bits .and .i64 a1 1023)))))) bt215.2.2.2.1 bt215.2.2.2.2.1 bt215.2.2.2.2.2.1 bt215.2.2.2.2.2.2.1 bt215.2.2.2.2.2.2.2.1 bt215.2.2.2.2.2.2.2.2) else (none)) else (if (Int.tmod (IntKind.u64.wrap (a0)) 7) = 3 then (portagelaw12_ExtraForms.j1 kj5 a0 t212 bt215.1 bt215.2.1 bt215.2.2.1 (wrap64 (1 - (wrap64 (1 + (Go.bits .and .i64 a1 1023))))) bt215.2.2.2.2.1 bt215.2.2.2.2.2.1 bt215.2.2.2.2.2.2.1 bt215.2.2.2.2.2.2.2.1 bt215.2.2.2.2.2.2.2.2) else (if (Int.tmod (IntKind.u64.wrap (a0)) 7) = 4 then (portagelaw12_ExtraForms.j1 kj5 a0 t212 bt215.1 bt215.2.1 bt215.2.2.1 (wrap64 (1048576 + (wrap64 (1 + (Go.bits .and .i64 a1 1023))))) bt215.2.2.2.2.1 bt215.2.2.2.2.2.1 bt215.2.2.2.2.2.2.1 bt215.2.2.2.2.2.2.2.1 bt215.2.2.2.2.2.2.2.2) else (if (Int.tmod (IntKind.u64.wrap (a0)) 7) = 5 then (portagelaw12_ExtraForms.j1 kj5 a0 t212 bt215.1 bt215.2.1 bt215.2.2.1 bt215.2.2.2.1 (wrap64 (-(wrap64 (1 + (Go.bits .and .i64 a1 1023))))) bt215.2.2.2.2.2.1 bt215.2.2.2.2.2.2.1 bt215.2.2.2.2.2.2.2.1 bt215.2.2.2.2.2.2.2.2) else (portagelaw12_ExtraForms.j1 kj5 a0 t212 bt215.1 bt215.2.1 bt215.2.2.1 bt215.2.2.2.1 (wrap64 (3 + (wrap64 (1 + (Go.bits .and .i64 a1 1023))))) bt215.2.2.2.2.2.1 bt215.2.2.2.2.2.2.1 bt215.2.2.2.2.2.2.2.1 bt215.2.2.2.2.2.2.2.2)))))))) = some r := by rw [if_neg (show ¬ (false = true) by decide)] at H; exact H
          clear H
          have H := H1
          clear H1
          replace H := Option.bind_eq_some_iff.mp H
          obtain ⟨⟨t215, t216, t217, t220, t221, t222, t223, t224, t225⟩, A190, H⟩ := H
          replace H : (if (Int.tmod (IntKind.u64.wrap (a0)) 7) = 0 then (if 3 ≤ (t217.length : Int) then (portagelaw12_ExtraForms.j1 kj5 a0 t212 t215 t216 (t217.take (3 : Int).toNat) t220 t221 t222 t223 t224 t225) else (none)) else (if (Int.tmod (IntKind.u64.wrap (a0)) 7) = 1 then (if 1 < (t217.length : Int) then (portagelaw12_ExtraForms.j1 kj5 a0 t212 t215 t216 (t217.set (1 : Int).toNat (wrap64 (-(wrap64 (1 + (Go.bits .and .i64 a1 1023)))))) t220 t221 t222 t223 t224 t225) else (none)) else (if (Int.tmod (IntKind.u64.wrap (a0)) 7) = 2 then (if 2 < (t217.length : Int) then (portagelaw12_ExtraForms.j1 kj5 a0 t212 t215 t216 (t217.set (2 : Int).toNat (wrap64 (1048576 + (wrap64 (1 + (Go.bits .and .i64 a1 1023)))))) t220 t221 t222 t223 t224 t225) else (none)) else (if (Int.tmod (IntKind.u64.wrap (a0)) 7) = 3 then (portagelaw12_ExtraForms.j1 kj5 a0 t212 t215 t216 t217 (wrap64 (1 - (wrap64 (1 + (Go.bits .and .i64 a1 1023))))) t221 t222 t223 t224 t225) else (if (Int.tmod (IntKind.u64.wrap (a0)) 7) = 4 then (portagelaw12_ExtraForms.j1 kj5 a0 t212 t215 t216 t217 (wrap64 (1048576 + (wrap64 (1 + (Go.bits .and .i64 a1 1023))))) t221 t222 t223 t224 t225) else (if (Int.tmod (IntKind.u64.wrap (a0)) 7) = 5 then (portagelaw12_ExtraForms.j1 kj5 a0 t212 t215 t216 t217 t220 (wrap64 (-(wrap64 (1 + (Go.bits .and .i64 a1 1023))))) t222 t223 t224 t225) else (portagelaw12_ExtraForms.j1 kj5 a0 t212 t215 t216 t217 t220 (wrap64 (3 + (wrap64 (1 + (Go.bits .and .i64 a1 1023))))) t222 t223 t224 t225))))))) = some r := H
          have A19 := Aside0.mk A190
          clear A190
          have HC20 := Aside0.mk H
          clear H
          have hcz21_0 : wc.cell? ⟨gb211, 0, none⟩ = some (.string (⟨#[]⟩ : ByteArray)) := (blk_cell BK211.out 0).trans rfl
          have hcz21_1 : wc.cell? ⟨gb211, 1, none⟩ = some (.bool false) := (blk_cell BK211.out 1).trans rfl
          have hcz21_2 : wc.cell? ⟨gb211, 2, none⟩ = some (.slice Ao10 y208.length co10) := (blk_cell BK211.out 2).trans rfl
          have hcz21_3 : wc.cell? ⟨gb211, 3, none⟩ = some (.int .i64 5) := (blk_cell BK211.out 3).trans rfl
          have hcz21_4 : wc.cell? ⟨gb211, 4, none⟩ = some (.int .i64 3) := (blk_cell BK211.out 4).trans rfl
          have hcz21_5 : wc.cell? ⟨gb211, 5, none⟩ = some (.int .i64 0) := (blk_cell BK211.out 5).trans rfl
          have hcz21_6 : wc.cell? ⟨gb211, 6, none⟩ = some (.string (⟨#[]⟩ : ByteArray)) := (blk_cell BK211.out 6).trans rfl
          have hcz21_7 : wc.cell? ⟨gb211, 7, none⟩ = some (.int .i64 0) := (blk_cell BK211.out 7).trans rfl
          have hcz21_8 : wc.cell? ⟨gb211, 8, none⟩ = some (.int .i64 0) := (blk_cell BK211.out 8).trans rfl
          have hfz21_0 := blk_frozen BK211.out 0
          have hfz21_1 := blk_frozen BK211.out 1
          have hfz21_2 := blk_frozen BK211.out 2
          have hfz21_3 := blk_frozen BK211.out 3
          have hfz21_4 := blk_frozen BK211.out 4
          have hfz21_5 := blk_frozen BK211.out 5
          have hfz21_6 := blk_frozen BK211.out 6
          have hfz21_7 := blk_frozen BK211.out 7
          have hfz21_8 := blk_frozen BK211.out 8
          go_upto_block 0 with (first | ((with_reducible refine gate_callee (f := 60) rfl ?_); refine goesL_ (some 36) rfl rfl Try.func60 (by kernel_rfl) rfl #[.agg #[.string (⟨#[]⟩ : ByteArray), .bool false, .slice Ao10 y208.length co10, .int .i64 5, .int .i64 3, .int .i64 0, .string (⟨#[]⟩ : ByteArray), .int .i64 0, .int .i64 0]] rfl (by (try simp only [List.map_toArray, List.map_cons, List.map_nil]); first | done | rfl | (simp only [List.length_drop, List.length_take]; rfl)) ?_; (with_reducible refine (portagelaw0_CopyEntry.calls (⟨#[]⟩ : ByteArray) false _ _ y208 5 3 0 (⟨#[]⟩ : ByteArray) 0 0 t215 t216 t217 t220 t221 t222 t223 t224 t225 _ ?side1 ?side2 A19.out).mono ?_); (case side1 => repeat (first | exact (Kd.R_reads' HO_212002.out).2.2 | (with_reducible refine Kd.C_alloc ?_ _) | (with_reducible refine Kd.C_drewN ?_ _) | (with_reducible refine Kd.C_drew ?_))); (case side2 => exact (Kd.R_reads' HO_212002.out).2.1); rintro e w22 ⟨v218, rfl, ho0, hb⟩; refine ⟨_, rfl, ?_⟩; have n0_ := Aside0.mk (Kd.R_elder' (by (with_reducible repeat (first | apply Kd.R_alloc | apply Kd.R_drewN | apply Kd.R_drew)); exact HO_212002.out) (Kd.R_base ho0) hb); have n1_ := Aside0.mk (Kd.R_lower (Kd.R_new' ho0 (Kd.R_lt (by (with_reducible repeat (first | apply Kd.R_alloc | apply Kd.R_drewN | apply Kd.R_drew)); exact HO_212002.out))) (below_size (by repeat (first | (with_reducible first | exact HB.out | apply below_alloc | apply pw_below_drewN | apply below_drew1 | refine below_set ?_ GE211.out) | exact HB.out)))); have n2_ := Aside0.mk (blk_below (g := gb211) (o := .cells #[.string (⟨#[]⟩ : ByteArray), .bool false, .slice Ao10 y208.length co10, .int .i64 5, .int .i64 3, .int .i64 0, .string (⟨#[]⟩ : ByteArray), .int .i64 0, .int .i64 0] 75 (0, 0)) (by (with_reducible repeat (first | refine blk_drewN ?_ _ | refine blk_drew ?_ | refine blk_alloc ?_ _)); exact BK211.out) hb); have n3_ := Aside0.mk (below_step (by repeat (first | (with_reducible first | exact HB.out | apply below_alloc | apply pw_below_drewN | apply below_drew1 | refine below_set ?_ GE211.out) | exact HB.out)) hb); clear HO_212002; clear BK211; clear HB; have HO_212002 := n0_; have HO219 := n1_; have BK211 := n2_; have HB := n3_; clear n0_ n1_ n2_ n3_; (try clear hb); (try clear hb2); (try clear hk); (try clear hi); (try clear ho0)) | ((with_reducible refine gate_dst (N := 9) rfl ?_); (try (refine gate_guard (by rfl) ?_; dsimp only)); refine box_event ?hg (N := 9) ?hd (cs := #[.string (⟨#[]⟩ : ByteArray), .bool false, .slice none 0 0, .int .i64 0, .int .i64 0, .int .i64 0, .string (⟨#[]⟩ : ByteArray), .int .i64 0, .int .i64 0]) (t := 75) ?hr ?_; (case hd => rfl); (case hg => rfl); (case hr => first | (go_simp; done) | (go_simp; rfl)); intro gb226 hg w23 hbox hb; have n0_ := Aside0.mk (Kd.R_below (by (with_reducible repeat (first | apply Kd.R_alloc | apply Kd.R_drewN | apply Kd.R_drew)); exact HO_212002.out) hb); have n1_ := Aside0.mk (Kd.R_below (by (with_reducible repeat (first | apply Kd.R_alloc | apply Kd.R_drewN | apply Kd.R_drew)); exact HO219.out) hb); have n2_ := Aside0.mk (blk_below (g := gb211) (o := .cells #[.string (⟨#[]⟩ : ByteArray), .bool false, .slice Ao10 y208.length co10, .int .i64 5, .int .i64 3, .int .i64 0, .string (⟨#[]⟩ : ByteArray), .int .i64 0, .int .i64 0] 75 (0, 0)) (by (with_reducible repeat (first | refine blk_drewN ?_ _ | refine blk_drew ?_ | refine blk_alloc ?_ _)); exact BK211.out) hb); have n3_ := Aside0.mk (below_step (by repeat (first | (with_reducible first | exact HB.out | apply below_alloc | apply pw_below_drewN | apply below_drew1 | refine below_set ?_ GE211.out) | exact HB.out)) hb); have n4_ := Aside0.mk (hbox); have n5_ := Aside0.mk ((by rw [hg]; exact (below_size (by repeat (first | (with_reducible first | exact HB.out | apply below_alloc | apply pw_below_drewN | apply below_drew1 | refine below_set ?_ GE211.out) | exact HB.out))) : w.heap.size ≤ gb226)); have n6_ := Aside0.mk ((by rw [hg]; exact (below_size (by repeat (first | (with_reducible first | exact HB.out | apply below_alloc | apply pw_below_drewN | apply below_drew1 | refine below_set ?_ GE211.out) | exact HB.out))) : w.heap.size ≤ gb226)); have n7_ := Aside0.mk ((by rw [hg]; exact Nat.ne_of_lt (blk_lt (g := gb211) (o := .cells #[.string (⟨#[]⟩ : ByteArray), .bool false, .slice Ao10 y208.length co10, .int .i64 5, .int .i64 3, .int .i64 0, .string (⟨#[]⟩ : ByteArray), .int .i64 0, .int .i64 0] 75 (0, 0)) (by (with_reducible repeat (first | refine blk_drewN ?_ _ | refine blk_drew ?_ | refine blk_alloc ?_ _)); exact BK211.out)) : gb211 ≠ gb226)); have n8_ := Aside0.mk ((by rw [hg]; exact Nat.ne_of_gt (blk_lt (g := gb211) (o := .cells #[.string (⟨#[]⟩ : ByteArray), .bool false, .slice Ao10 y208.length co10, .int .i64 5, .int .i64 3, .int .i64 0, .string (⟨#[]⟩ : ByteArray), .int .i64 0, .int .i64 0] 75 (0, 0)) (by (with_reducible repeat (first | refine blk_drewN ?_ _ | refine blk_drew ?_ | refine blk_alloc ?_ _)); exact BK211.out)) : gb226 ≠ gb211)); clear HO_212002; clear HO219; clear BK211; clear HB; have HO_212002 := n0_; have HO219 := n1_; have BK211 := n2_; have HB := n3_; have BK226 := n4_; have GW226 := n5_; have GE226 := n6_; have NB211_226 := n7_; have NB226_211 := n8_; clear n0_ n1_ n2_ n3_ n4_ n5_ n6_ n7_ n8_; clear hb hbox hg; have hnb24 := NB226_211.out; have hnc24 := NB211_226.out; have hcz25_0 : w23.cell? ⟨gb226, 0, none⟩ = some (.string (⟨#[]⟩ : ByteArray)) := (blk_cell BK226.out 0).trans rfl; have hcz25_1 : w23.cell? ⟨gb226, 1, none⟩ = some (.bool false) := (blk_cell BK226.out 1).trans rfl; have hcz25_2 : w23.cell? ⟨gb226, 2, none⟩ = some (.slice none 0 0) := (blk_cell BK226.out 2).trans rfl; have hcz25_3 : w23.cell? ⟨gb226, 3, none⟩ = some (.int .i64 0) := (blk_cell BK226.out 3).trans rfl; have hcz25_4 : w23.cell? ⟨gb226, 4, none⟩ = some (.int .i64 0) := (blk_cell BK226.out 4).trans rfl; have hcz25_5 : w23.cell? ⟨gb226, 5, none⟩ = some (.int .i64 0) := (blk_cell BK226.out 5).trans rfl; have hcz25_6 : w23.cell? ⟨gb226, 6, none⟩ = some (.string (⟨#[]⟩ : ByteArray)) := (blk_cell BK226.out 6).trans rfl; have hcz25_7 : w23.cell? ⟨gb226, 7, none⟩ = some (.int .i64 0) := (blk_cell BK226.out 7).trans rfl; have hcz25_8 : w23.cell? ⟨gb226, 8, none⟩ = some (.int .i64 0) := (blk_cell BK226.out 8).trans rfl; have hfz25_0 := blk_frozen BK226.out 0; have hfz25_1 := blk_frozen BK226.out 1; have hfz25_2 := blk_frozen BK226.out 2; have hfz25_3 := blk_frozen BK226.out 3; have hfz25_4 := blk_frozen BK226.out 4; have hfz25_5 := blk_frozen BK226.out 5; have hfz25_6 := blk_frozen BK226.out 6; have hfz25_7 := blk_frozen BK226.out 7; have hfz25_8 := blk_frozen BK226.out 8; obtain ⟨Ao26, co26, eo26⟩ := Kd.R_slice HO219.out; subst eo26) | ((with_reducible refine gate_store (t := 75) (p := 9) rfl ?_); refine store_event (t := 75) (p := 9) (v := ?vo_w27) (w1 := (((((((((w23.setCell ⟨gb226, 0, none⟩ (.string t215)).setCell ⟨gb226, 1, none⟩ (.bool t216)).setCell ⟨gb226, 2, none⟩ (.slice Ao26 t217.length co26)).setCell ⟨gb226, 3, none⟩ (.int .i64 t220)).setCell ⟨gb226, 4, none⟩ (.int .i64 t221)).setCell ⟨gb226, 5, none⟩ (.int .i64 t222)).setCell ⟨gb226, 6, none⟩ (.string t223)).setCell ⟨gb226, 7, none⟩ (.int .i64 t224)).setCell ⟨gb226, 8, none⟩ (.int .i64 t225))) ?hg ?ho ?hn ?hr ?_; (case ho => rfl); (case hg => rfl); (case hn => rfl); (case hr => first | (go_simp; done) | (go_simp; rfl)); intro w27 hw; have n0_ : Aside0 (Kd.R (Kd.int .i64) 3 w27 w.heap.size (fun k_ => some k_ ≠ (.slice Ao26 t217.length co26 : Value).ownBlock) (.slice Ao10 y208.length co10) y208) := ⟨(by rw [hw]; exact (by (with_reducible repeat (first | apply Kd.R_alloc | apply Kd.R_drewN | apply Kd.R_drew)); exact Kd.R_mono (Kd.R_far (p := ⟨gb226, 8, none⟩) (Kd.R_far (p := ⟨gb226, 7, none⟩) (Kd.R_far (p := ⟨gb226, 6, none⟩) (Kd.R_far (p := ⟨gb226, 5, none⟩) (Kd.R_far (p := ⟨gb226, 4, none⟩) (Kd.R_far (p := ⟨gb226, 3, none⟩) (Kd.R_far (p := ⟨gb226, 2, none⟩) (Kd.R_far (p := ⟨gb226, 1, none⟩) (Kd.R_far (p := ⟨gb226, 0, none⟩) (Kd.R_types HO_212002.out BK226.out (by decide)) (fun _ hk => hk.2) (.string t215)) (fun _ hk => hk.2) (.bool t216)) (fun _ hk => hk.2) (.slice Ao26 t217.length co26)) (fun _ hk => hk.2) (.int .i64 t220)) (fun _ hk => hk.2) (.int .i64 t221)) (fun _ hk => hk.2) (.int .i64 t222)) (fun _ hk => hk.2) (.string t223)) (fun _ hk => hk.2) (.int .i64 t224)) (fun _ hk => hk.2) (.int .i64 t225)) (fun _ hk => hk.1.2)))⟩; have n1_ : Aside0 (Kd.R (Kd.int .i64) 3 w27 w.heap.size (fun k_ => some k_ ≠ (.slice Ao10 y208.length co10 : Value).ownBlock) (.slice Ao26 t217.length co26) t217) := ⟨(by rw [hw]; exact (by (with_reducible repeat (first | apply Kd.R_alloc | apply Kd.R_drewN | apply Kd.R_drew)); exact Kd.R_mono (Kd.R_far (p := ⟨gb226, 8, none⟩) (Kd.R_far (p := ⟨gb226, 7, none⟩) (Kd.R_far (p := ⟨gb226, 6, none⟩) (Kd.R_far (p := ⟨gb226, 5, none⟩) (Kd.R_far (p := ⟨gb226, 4, none⟩) (Kd.R_far (p := ⟨gb226, 3, none⟩) (Kd.R_far (p := ⟨gb226, 2, none⟩) (Kd.R_far (p := ⟨gb226, 1, none⟩) (Kd.R_far (p := ⟨gb226, 0, none⟩) (Kd.R_types HO219.out BK226.out (by decide)) (fun _ hk => hk.2) (.string t215)) (fun _ hk => hk.2) (.bool t216)) (fun _ hk => hk.2) (.slice Ao26 t217.length co26)) (fun _ hk => hk.2) (.int .i64 t220)) (fun _ hk => hk.2) (.int .i64 t221)) (fun _ hk => hk.2) (.int .i64 t222)) (fun _ hk => hk.2) (.string t223)) (fun _ hk => hk.2) (.int .i64 t224)) (fun _ hk => hk.2) (.int .i64 t225)) (fun _ hk => hk.1.2)))⟩; have n2_ : Aside0 (w27.heap[gb211]? = some (.cells #[.string (⟨#[]⟩ : ByteArray), .bool false, .slice Ao10 y208.length co10, .int .i64 5, .int .i64 3, .int .i64 0, .string (⟨#[]⟩ : ByteArray), .int .i64 0, .int .i64 0] 75 (0, 0))) := ⟨(by rw [hw]; exact (by (with_reducible repeat (first | refine blk_drewN ?_ _ | refine blk_drew ?_ | refine blk_alloc ?_ _)); refine blk_far ?_ NB211_226.out _; (with_reducible repeat (first | refine blk_drewN ?_ _ | refine blk_drew ?_ | refine blk_alloc ?_ _)); refine blk_far ?_ NB211_226.out _; (with_reducible repeat (first | refine blk_drewN ?_ _ | refine blk_drew ?_ | refine blk_alloc ?_ _)); refine blk_far ?_ NB211_226.out _; (with_reducible repeat (first | refine blk_drewN ?_ _ | refine blk_drew ?_ | refine blk_alloc ?_ _)); refine blk_far ?_ NB211_226.out _; (with_reducible repeat (first | refine blk_drewN ?_ _ | refine blk_drew ?_ | refine blk_alloc ?_ _)); refine blk_far ?_ NB211_226.out _; (with_reducible repeat (first | refine blk_drewN ?_ _ | refine blk_drew ?_ | refine blk_alloc ?_ _)); refine blk_far ?_ NB211_226.out _; (with_reducible repeat (first | refine blk_drewN ?_ _ | refine blk_drew ?_ | refine blk_alloc ?_ _)); refine blk_far ?_ NB211_226.out _; (with_reducible repeat (first | refine blk_drewN ?_ _ | refine blk_drew ?_ | refine blk_alloc ?_ _)); refine blk_far ?_ NB211_226.out _; (with_reducible repeat (first | refine blk_drewN ?_ _ | refine blk_drew ?_ | refine blk_alloc ?_ _)); refine blk_far ?_ NB211_226.out _; (with_reducible repeat (first | refine blk_drewN ?_ _ | refine blk_drew ?_ | refine blk_alloc ?_ _)); exact BK211.out))⟩; have n3_ : Aside0 (w27.heap[gb226]? = some (.cells #[.string t215, .bool t216, .slice Ao26 t217.length co26, .int .i64 t220, .int .i64 t221, .int .i64 t222, .string t223, .int .i64 t224, .int .i64 t225] 75 (0, 0))) := ⟨(by rw [hw]; exact (by (with_reducible repeat (first | refine blk_drewN ?_ _ | refine blk_drew ?_ | refine blk_alloc ?_ _)); refine blk_put (cs := #[.string t215, .bool t216, .slice Ao26 t217.length co26, .int .i64 t220, .int .i64 t221, .int .i64 t222, .string t223, .int .i64 t224, .int .i64 0]) ?_ 8 _ rfl; (with_reducible repeat (first | refine blk_drewN ?_ _ | refine blk_drew ?_ | refine blk_alloc ?_ _)); refine blk_put (cs := #[.string t215, .bool t216, .slice Ao26 t217.length co26, .int .i64 t220, .int .i64 t221, .int .i64 t222, .string t223, .int .i64 0, .int .i64 0]) ?_ 7 _ rfl; (with_reducible repeat (first | refine blk_drewN ?_ _ | refine blk_drew ?_ | refine blk_alloc ?_ _)); refine blk_put (cs := #[.string t215, .bool t216, .slice Ao26 t217.length co26, .int .i64 t220, .int .i64 t221, .int .i64 t222, .string (⟨#[]⟩ : ByteArray), .int .i64 0, .int .i64 0]) ?_ 6 _ rfl; (with_reducible repeat (first | refine blk_drewN ?_ _ | refine blk_drew ?_ | refine blk_alloc ?_ _)); refine blk_put (cs := #[.string t215, .bool t216, .slice Ao26 t217.length co26, .int .i64 t220, .int .i64 t221, .int .i64 0, .string (⟨#[]⟩ : ByteArray), .int .i64 0, .int .i64 0]) ?_ 5 _ rfl; (with_reducible repeat (first | refine blk_drewN ?_ _ | refine blk_drew ?_ | refine blk_alloc ?_ _)); refine blk_put (cs := #[.string t215, .bool t216, .slice Ao26 t217.length co26, .int .i64 t220, .int .i64 0, .int .i64 0, .string (⟨#[]⟩ : ByteArray), .int .i64 0, .int .i64 0]) ?_ 4 _ rfl; (with_reducible repeat (first | refine blk_drewN ?_ _ | refine blk_drew ?_ | refine blk_alloc ?_ _)); refine blk_put (cs := #[.string t215, .bool t216, .slice Ao26 t217.length co26, .int .i64 0, .int .i64 0, .int .i64 0, .string (⟨#[]⟩ : ByteArray), .int .i64 0, .int .i64 0]) ?_ 3 _ rfl; (with_reducible repeat (first | refine blk_drewN ?_ _ | refine blk_drew ?_ | refine blk_alloc ?_ _)); refine blk_put (cs := #[.string t215, .bool t216, .slice none 0 0, .int .i64 0, .int .i64 0, .int .i64 0, .string (⟨#[]⟩ : ByteArray), .int .i64 0, .int .i64 0]) ?_ 2 _ rfl; (with_reducible repeat (first | refine blk_drewN ?_ _ | refine blk_drew ?_ | refine blk_alloc ?_ _)); refine blk_put (cs := #[.string t215, .bool false, .slice none 0 0, .int .i64 0, .int .i64 0, .int .i64 0, .string (⟨#[]⟩ : ByteArray), .int .i64 0, .int .i64 0]) ?_ 1 _ rfl; (with_reducible repeat (first | refine blk_drewN ?_ _ | refine blk_drew ?_ | refine blk_alloc ?_ _)); refine blk_put (cs := #[.string (⟨#[]⟩ : ByteArray), .bool false, .slice none 0 0, .int .i64 0, .int .i64 0, .int .i64 0, .string (⟨#[]⟩ : ByteArray), .int .i64 0, .int .i64 0]) ?_ 0 _ rfl; (with_reducible repeat (first | refine blk_drewN ?_ _ | refine blk_drew ?_ | refine blk_alloc ?_ _)); exact BK226.out))⟩; have n4_ : Aside0 (Below w.heap.size w w27) := ⟨(by rw [hw]; exact (by repeat (first | (with_reducible first | exact HB.out | apply below_alloc | apply pw_below_drewN | apply below_drew1 | refine below_set ?_ GE211.out | refine below_set ?_ GE226.out) | exact HB.out)))⟩; clear hw; clear HO_212002; clear HO219; clear BK211; clear BK226; clear HB; have HO_212002 := n0_; have HO219 := n1_; have BK211 := n2_; have BK226 := n3_; have HB := n4_; clear n0_ n1_ n2_ n3_ n4_))
          (try simp only [Act.put, List.setIfInBounds_toArray, List.set_cons_zero, List.set_cons_succ])
          go_cut [] (fun wc => ∃ (kq : Nat) (x212002_19 : List Int) (x227002_19 : List Int) (x227003_19 : Int) (x227004_19 : Int) (u212002 : Value) (u227002 : Value), Aside0 (portagelaw12_ExtraForms.j1 kq a0 t212 t215 t216 x227002_19 x227003_19 x227004_19 t222 t223 t224 t225 = some r) ∧ Aside0 (kq ≤ kj5) ∧ Aside0 (Kd.R (Kd.int .i64) 3 wc w.heap.size (fun k_ => some k_ ≠ (u227002 : Value).ownBlock) u212002 x212002_19) ∧ Aside0 (Kd.R (Kd.int .i64) 3 wc w.heap.size (fun k_ => some k_ ≠ (u212002 : Value).ownBlock) u227002 x227002_19) ∧ Aside0 (wc.heap[gb211]? = some (.cells #[.string (⟨#[]⟩ : ByteArray), .bool false, u212002, .int .i64 5, .int .i64 3, .int .i64 0, .string (⟨#[]⟩ : ByteArray), .int .i64 0, .int .i64 0] 75 (0, 0))) ∧ Aside0 (wc.heap[gb226]? = some (.cells #[.string t215, .bool t216, u227002, .int .i64 x227003_19, .int .i64 x227004_19, .int .i64 t222, .string t223, .int .i64 t224, .int .i64 t225] 75 (0, 0))) ∧ Aside0 (Below w.heap.size w wc))
          case first =>
            have H := HC20.out
            clear HC20
            by_cases c28 : (Int.tmod (IntKind.u64.wrap (a0)) 7) = 0
            · rw [if_pos c28] at H
              have c28b0 : ((Int.tmod (IntKind.u64.wrap (a0)) 7) == 0) = true := beq_iff_eq.mpr c28
              have c28b1 : ((Int.tmod (IntKind.u64.wrap (a0)) 7) != 0) = false := bne_eq_false_iff_eq.mpr c28
              clear c28
              (first | rw [c28b0] | (simp only [i64_w, i32_w]; rw [c28b0]) | skip)
              by_cases c29 : 3 ≤ (t217.length : Int)
              · rw [if_pos c29] at H
                have c29b0 := eq_true c29
                have c29b1 : decide (3 ≤ (t217.length : Int)) = true := decide_eq_true c29
                clear c29
                obtain ⟨y227, hy227⟩ : ∃ y_ : List Int, y_ = (t217.take (3 : Int).toNat) := ⟨_, rfl⟩
                replace H : (portagelaw12_ExtraForms.j1 kj5 a0 t212 t215 t216 y227 t220 t221 t222 t223 t224 t225) = some r := by first | (rw [hy227]; with_reducible exact H) | (have H2_ := (Option.bind_some _ _).symm.trans H; rw [hy227]; with_reducible exact H2_) | (have H2_ := (Option.bind_some _ _).symm.trans H; with_reducible exact H2_) | with_reducible exact H | (rw [hy227]; exact H) | exact H
                have Ny227 := Aside0.mk hy227
                clear hy227
                have H' := Aside0.mk H
                clear H
                have hnb30 := NB226_211.out
                have hnc30 := NB211_226.out
                have hcz31_0 : w27.cell? ⟨gb226, 0, none⟩ = some (.string t215) := (blk_cell BK226.out 0).trans rfl
                have hcz31_1 : w27.cell? ⟨gb226, 1, none⟩ = some (.bool t216) := (blk_cell BK226.out 1).trans rfl
                have hcz31_2 : w27.cell? ⟨gb226, 2, none⟩ = some (.slice Ao26 t217.length co26) := (blk_cell BK226.out 2).trans rfl
                have hcz31_3 : w27.cell? ⟨gb226, 3, none⟩ = some (.int .i64 t220) := (blk_cell BK226.out 3).trans rfl
                have hcz31_4 : w27.cell? ⟨gb226, 4, none⟩ = some (.int .i64 t221) := (blk_cell BK226.out 4).trans rfl
                have hcz31_5 : w27.cell? ⟨gb226, 5, none⟩ = some (.int .i64 t222) := (blk_cell BK226.out 5).trans rfl
                have hcz31_6 : w27.cell? ⟨gb226, 6, none⟩ = some (.string t223) := (blk_cell BK226.out 6).trans rfl
                have hcz31_7 : w27.cell? ⟨gb226, 7, none⟩ = some (.int .i64 t224) := (blk_cell BK226.out 7).trans rfl
                have hcz31_8 : w27.cell? ⟨gb226, 8, none⟩ = some (.int .i64 t225) := (blk_cell BK226.out 8).trans rfl
                have hfz31_0 := blk_frozen BK226.out 0
                have hfz31_1 := blk_frozen BK226.out 1
                have hfz31_2 := blk_frozen BK226.out 2
                have hfz31_3 := blk_frozen BK226.out 3
                have hfz31_4 := blk_frozen BK226.out 4
                have hfz31_5 := blk_frozen BK226.out 5
                have hfz31_6 := blk_frozen BK226.out 6
                have hfz31_7 := blk_frozen BK226.out 7
                have hfz31_8 := blk_frozen BK226.out 8
                have q32 : (3 : Int) ≤ ((t217.length : Int) : Int) := of_decide_eq_true (by first | (with_reducible assumption) | assumption)
                obtain ⟨i032, hi032, _, hsz32, _⟩ := info_parts info3
                have hcut32 := cut_to (P := Try.prog) 33 3 .i64 Try.underlying33 hi032 Ao26 t217.length co26 3 (by omega) q32 (Kd.R_reads' HO219.out).2.1
                have hr32 := Kd.R_take (m := (3 : Int).toNat) HO219.out (by omega)
                have hy32 : y227.length = (3 : Int).toNat := (by rw [Ny227.out, List.length_take]; omega)
                rw [← Ny227.out] at hr32
                rw [← hy32] at hr32 hcut32
                clear hy32 hi032 hsz32 HO219
                have HO229 := Aside0.mk hr32
                have how_ : (Value.slice Ao26 t217.length co26).ownBlock = (Value.slice Ao26 y227.length co26).ownBlock := by cases Ao26 <;> rfl
                rw [how_] at HO_212002
                clear how_
                clear hr32
                replace q32 := eq_true q32
                go_wp2_with (first | ((with_reducible refine gate_store (t := 33) (p := 48) rfl ?_); refine store_event (t := 33) (p := 48) (v := ?vo_w33) (w1 := (w27.setCell ⟨gb226, 2, none⟩ (.slice Ao26 y227.length co26))) ?hg ?ho ?hn ?hr ?_; (case ho => rfl); (case hg => rfl); (case hn => rfl); (case hr => first | (go_simp; done) | (go_simp; rfl)); intro w33 hw; have n0_ : Aside0 (Kd.R (Kd.int .i64) 3 w33 w.heap.size (fun k_ => some k_ ≠ (.slice Ao26 y227.length co26 : Value).ownBlock) (.slice Ao10 y208.length co10) y208) := ⟨(by rw [hw]; exact (by (with_reducible repeat (first | apply Kd.R_alloc | apply Kd.R_drewN | apply Kd.R_drew)); exact Kd.R_mono (Kd.R_far (p := ⟨gb226, 2, none⟩) (Kd.R_types HO_212002.out BK226.out (by decide)) (fun _ hk => hk.2) (.slice Ao26 y227.length co26)) (fun _ hk => hk.1)))⟩; have n1_ : Aside0 (Kd.R (Kd.int .i64) 3 w33 w.heap.size (fun k_ => some k_ ≠ (.slice Ao10 y208.length co10 : Value).ownBlock) (.slice Ao26 y227.length co26) y227) := ⟨(by rw [hw]; exact (by (with_reducible repeat (first | apply Kd.R_alloc | apply Kd.R_drewN | apply Kd.R_drew)); exact Kd.R_mono (Kd.R_far (p := ⟨gb226, 2, none⟩) (Kd.R_types HO229.out BK226.out (by decide)) (fun _ hk => hk.2) (.slice Ao26 y227.length co26)) (fun _ hk => hk.1)))⟩; have n2_ : Aside0 (w33.heap[gb211]? = some (.cells #[.string (⟨#[]⟩ : ByteArray), .bool false, .slice Ao10 y208.length co10, .int .i64 5, .int .i64 3, .int .i64 0, .string (⟨#[]⟩ : ByteArray), .int .i64 0, .int .i64 0] 75 (0, 0))) := ⟨(by rw [hw]; exact (by (with_reducible repeat (first | refine blk_drewN ?_ _ | refine blk_drew ?_ | refine blk_alloc ?_ _)); refine blk_far ?_ NB211_226.out _; (with_reducible repeat (first | refine blk_drewN ?_ _ | refine blk_drew ?_ | refine blk_alloc ?_ _)); exact BK211.out))⟩; have n3_ : Aside0 (w33.heap[gb226]? = some (.cells #[.string t215, .bool t216, .slice Ao26 y227.length co26, .int .i64 t220, .int .i64 t221, .int .i64 t222, .string t223, .int .i64 t224, .int .i64 t225] 75 (0, 0))) := ⟨(by rw [hw]; exact (by (with_reducible repeat (first | refine blk_drewN ?_ _ | refine blk_drew ?_ | refine blk_alloc ?_ _)); refine blk_put (cs := #[.string t215, .bool t216, .slice Ao26 t217.length co26, .int .i64 t220, .int .i64 t221, .int .i64 t222, .string t223, .int .i64 t224, .int .i64 t225]) ?_ 2 _ rfl; (with_reducible repeat (first | refine blk_drewN ?_ _ | refine blk_drew ?_ | refine blk_alloc ?_ _)); exact BK226.out))⟩; have n4_ : Aside0 (Below w.heap.size w w33) := ⟨(by rw [hw]; exact (by repeat (first | (with_reducible first | exact HB.out | apply below_alloc | apply pw_below_drewN | apply below_drew1 | refine below_set ?_ GE211.out | refine below_set ?_ GE226.out) | exact HB.out)))⟩; clear hw; clear HO_212002; clear HO229; clear BK211; clear BK226; clear HB; have HO_212002 := n0_; have HO229 := n1_; have BK211 := n2_; have BK226 := n3_; have HB := n4_; clear n0_ n1_ n2_ n3_ n4_))
                go_meet
                case rel => exact ⟨_, (y208), (y227), (t220), (t221), (.slice Ao10 y208.length co10), (.slice Ao26 y227.length co26), H', ⟨by have := HJ5.out; first | omega | exact Nat.le_refl _⟩, ⟨by (with_reducible repeat (first | apply Kd.R_alloc | apply Kd.R_drewN | apply Kd.R_drew)); exact HO_212002.out⟩, ⟨by (with_reducible repeat (first | apply Kd.R_alloc | apply Kd.R_drewN | apply Kd.R_drew)); exact HO229.out⟩, ⟨by (with_reducible repeat (first | refine blk_drewN ?_ _ | refine blk_drew ?_ | refine blk_alloc ?_ _)); exact BK211.out⟩, ⟨by (with_reducible repeat (first | refine blk_drewN ?_ _ | refine blk_drew ?_ | refine blk_alloc ?_ _)); exact BK226.out⟩, ⟨by repeat (first | (with_reducible first | exact HB.out | apply below_alloc | apply pw_below_drewN | apply below_drew1 | refine below_set ?_ GE211.out | refine below_set ?_ GE226.out) | exact HB.out)⟩⟩
              · rw [if_neg c29] at H
                exact absurd H (by simp)
            · rw [if_neg c28] at H
              have c28b0 : ((Int.tmod (IntKind.u64.wrap (a0)) 7) == 0) = false := beq_eq_false_iff_ne.mpr c28
              have c28b1 : ((Int.tmod (IntKind.u64.wrap (a0)) 7) != 0) = true := bne_iff_ne.mpr c28
              (first | rw [c28b0] | (simp only [i64_w, i32_w]; rw [c28b0]) | skip)
              by_cases c34 : (Int.tmod (IntKind.u64.wrap (a0)) 7) = 1
              · rw [if_pos c34] at H
                have c34b0 : ((Int.tmod (IntKind.u64.wrap (a0)) 7) == 1) = true := beq_iff_eq.mpr c34
                have c34b1 : ((Int.tmod (IntKind.u64.wrap (a0)) 7) != 1) = false := bne_eq_false_iff_eq.mpr c34
                clear c34
                by_cases c35 : 1 < (t217.length : Int)
                · rw [if_pos c35] at H
                  have c35b0 : decide (1 < (t217.length : Int)) = true := decide_eq_true c35
                  have c35b1 : decide (1 < t217.length) = true := decide_eq_true (by omega)
                  clear c35
                  obtain ⟨y230, hy230⟩ : ∃ y_ : List Int, y_ = (t217.set (1 : Int).toNat (wrap64 (-(wrap64 (1 + (Go.bits .and .i64 a1 1023)))))) := ⟨_, rfl⟩
                  replace H : (portagelaw12_ExtraForms.j1 kj5 a0 t212 t215 t216 y230 t220 t221 t222 t223 t224 t225) = some r := by first | (rw [hy230]; with_reducible exact H) | (have H2_ := (Option.bind_some _ _).symm.trans H; rw [hy230]; with_reducible exact H2_) | (have H2_ := (Option.bind_some _ _).symm.trans H; with_reducible exact H2_) | with_reducible exact H | (rw [hy230]; exact H) | exact H
                  have Ny230 := Aside0.mk hy230
                  clear hy230
                  have H' := Aside0.mk H
                  clear H
                  have hnb37 := NB226_211.out
                  have hnc37 := NB211_226.out
                  have hcz38_0 : w27.cell? ⟨gb226, 0, none⟩ = some (.string t215) := (blk_cell BK226.out 0).trans rfl
                  have hcz38_1 : w27.cell? ⟨gb226, 1, none⟩ = some (.bool t216) := (blk_cell BK226.out 1).trans rfl
                  have hcz38_2 : w27.cell? ⟨gb226, 2, none⟩ = some (.slice Ao26 t217.length co26) := (blk_cell BK226.out 2).trans rfl
                  have hcz38_3 : w27.cell? ⟨gb226, 3, none⟩ = some (.int .i64 t220) := (blk_cell BK226.out 3).trans rfl
                  have hcz38_4 : w27.cell? ⟨gb226, 4, none⟩ = some (.int .i64 t221) := (blk_cell BK226.out 4).trans rfl
                  have hcz38_5 : w27.cell? ⟨gb226, 5, none⟩ = some (.int .i64 t222) := (blk_cell BK226.out 5).trans rfl
                  have hcz38_6 : w27.cell? ⟨gb226, 6, none⟩ = some (.string t223) := (blk_cell BK226.out 6).trans rfl
                  have hcz38_7 : w27.cell? ⟨gb226, 7, none⟩ = some (.int .i64 t224) := (blk_cell BK226.out 7).trans rfl
                  have hcz38_8 : w27.cell? ⟨gb226, 8, none⟩ = some (.int .i64 t225) := (blk_cell BK226.out 8).trans rfl
                  have hfz38_0 := blk_frozen BK226.out 0
                  have hfz38_1 := blk_frozen BK226.out 1
                  have hfz38_2 := blk_frozen BK226.out 2
                  have hfz38_3 := blk_frozen BK226.out 3
                  have hfz38_4 := blk_frozen BK226.out 4
                  have hfz38_5 := blk_frozen BK226.out 5
                  have hfz38_6 := blk_frozen BK226.out 6
                  have hfz38_7 := blk_frozen BK226.out 7
                  have hfz38_8 := blk_frozen BK226.out 8
                  have p36 : 0 ≤ (1 : Int) := (by omega)
                  have q36 : (1 : Int) < ((t217.length : Int) : Int) := of_decide_eq_true (by first | (with_reducible assumption) | assumption)
                  have qi36 : (1 < t217.length) = True := eq_true (by omega)
                  obtain ⟨go36, co36, eo36, gb36, gl36, cl36, HG36⟩ := Kd.R_form HO219.out (by omega)
                  (first | cases eo36 | (injection eo36 with ea_ en_ ec_; (first | subst ea_ | (injection ea_ with ea_; subst ea_)); subst ec_; clear en_))
                  have GB36 := Aside0.mk gb36
                  have GG36 := Aside0.mk HG36
                  clear gb36 gl36 HG36
                  obtain ⟨hx36_0, hf36_0⟩ := Kd.R_celln 0 HO219.out (1 : Int) p36 q36
                  (try rw [show ((1 : Int)).toNat = 1 from rfl] at hx36_0)
                  (try simp only [Nat.reduceMul, Nat.zero_mul, Nat.zero_add, Nat.reduceAdd] at hx36_0)
                  (try rw [show ((1 : Int)).toNat = 1 from rfl] at hf36_0)
                  (try simp only [Nat.reduceMul, Nat.zero_mul, Nat.zero_add, Nat.reduceAdd] at hf36_0)
                  replace p36 := eq_true p36
                  replace q36 := eq_true q36
                  have HP39 := Kd.R_putg HO219.out (1 : Int) (wrap64 (-(wrap64 (1 + (Go.bits .and .i64 a1 1023)))))
                  go_wp2_with (first | ((with_reducible refine gate_store (t := 3) (p := 55) rfl ?_); refine store_event (t := 3) (p := 55) (v := ?vo_w40) (w1 := (w27.setCell ⟨go36, (1 : Int).toNat, none⟩ (.int .i64 (wrap64 (-(wrap64 (1 + (Go.bits .and .i64 a1 1023)))))))) ?hg ?ho ?hn ?hr ?_; (case ho => rfl); (case hg => rfl); (case hn => rfl); (case hr => first | (go_simp; done) | (go_simp; rfl)); intro w40 hw; have hg : w27.grownBy w40 (some go36) := (by rw [hw]; exact HP39.2); have hp_ : Kd.R (Kd.int .i64) 3 w40 w.heap.size (fun k_ => some k_ ≠ (.slice Ao10 y208.length co10 : Value).ownBlock) (.slice (some ⟨go36, 0, none⟩) t217.length co26) y230 := (by rw [hw, Ny230.out]; exact HP39.1); clear HP39; have n0_ := Aside0.mk (Kd.R_after (v := (.slice (some ⟨go36, 0, none⟩) t217.length co26)) (v1 := (.slice (some ⟨go36, 0, none⟩) t217.length co26)) (ok := (fun _ => True)) (by (with_reducible repeat (first | apply Kd.R_alloc | apply Kd.R_drewN | apply Kd.R_drew)); exact Kd.R_mono HO_212002.out (fun _ hk => ⟨trivial, hk⟩)) hg (.inl rfl)); have n1_ := Aside0.mk (blk_grown (g := gb211) (o := .cells #[.string (⟨#[]⟩ : ByteArray), .bool false, .slice Ao10 y208.length co10, .int .i64 5, .int .i64 3, .int .i64 0, .string (⟨#[]⟩ : ByteArray), .int .i64 0, .int .i64 0] 75 (0, 0)) (by (with_reducible repeat (first | refine blk_drewN ?_ _ | refine blk_drew ?_ | refine blk_alloc ?_ _)); exact BK211.out) hg (Kd.R_ne HO219.out BK211.out (by decide))); have n2_ := Aside0.mk (hp_); have n3_ := Aside0.mk (blk_grown (g := gb226) (o := .cells #[.string t215, .bool t216, .slice (some ⟨go36, 0, none⟩) t217.length co26, .int .i64 t220, .int .i64 t221, .int .i64 t222, .string t223, .int .i64 t224, .int .i64 t225] 75 (0, 0)) (by (with_reducible repeat (first | refine blk_drewN ?_ _ | refine blk_drew ?_ | refine blk_alloc ?_ _)); exact BK226.out) hg (Kd.R_ne HO219.out BK226.out (by decide))); have n4_ := Aside0.mk ((by rw [hw]; exact below_set (HB.out) GB36.out : Below w.heap.size w w40)); clear HO_212002; clear BK211; clear HO219; clear BK226; clear HB; have HO_212002 := n0_; have BK211 := n1_; have HO219 := n2_; have BK226 := n3_; have HB := n4_; clear n0_ n1_ n2_ n3_ n4_; clear hg hw hp_))
                  go_meet
                  case rel => exact ⟨_, (y208), (y230), (t220), (t221), (.slice Ao10 y208.length co10), (.slice (some ⟨go36, 0, none⟩) t217.length co26), H', ⟨by have := HJ5.out; first | omega | exact Nat.le_refl _⟩, ⟨by (with_reducible repeat (first | apply Kd.R_alloc | apply Kd.R_drewN | apply Kd.R_drew)); exact Kd.R_mono HO_212002.out (fun _ hk => hk.2)⟩, ⟨by (with_reducible repeat (first | apply Kd.R_alloc | apply Kd.R_drewN | apply Kd.R_drew)); exact HO219.out⟩, ⟨by (with_reducible repeat (first | refine blk_drewN ?_ _ | refine blk_drew ?_ | refine blk_alloc ?_ _)); exact BK211.out⟩, ⟨by (with_reducible repeat (first | refine blk_drewN ?_ _ | refine blk_drew ?_ | refine blk_alloc ?_ _)); exact BK226.out⟩, ⟨by repeat (first | (with_reducible first | exact HB.out | apply below_alloc | apply pw_below_drewN | apply below_drew1 | refine below_set ?_ GE211.out | refine below_set ?_ GE226.out) | exact HB.out)⟩⟩
                · rw [if_neg c35] at H
                  exact absurd H (by simp)
              · rw [if_neg c34] at H
                have c34b0 : ((Int.tmod (IntKind.u64.wrap (a0)) 7) == 1) = false := beq_eq_false_iff_ne.mpr c34
                have c34b1 : ((Int.tmod (IntKind.u64.wrap (a0)) 7) != 1) = true := bne_iff_ne.mpr c34
                by_cases c41 : (Int.tmod (IntKind.u64.wrap (a0)) 7) = 2
                · rw [if_pos c41] at H
                  have c41b0 : ((Int.tmod (IntKind.u64.wrap (a0)) 7) == 2) = true := beq_iff_eq.mpr c41
                  have c41b1 : ((Int.tmod (IntKind.u64.wrap (a0)) 7) != 2) = false := bne_eq_false_iff_eq.mpr c41
                  clear c41
                  by_cases c42 : 2 < (t217.length : Int)
                  · rw [if_pos c42] at H
                    have c42b0 : decide (2 < (t217.length : Int)) = true := decide_eq_true c42
                    have c42b1 : decide (2 < t217.length) = true := decide_eq_true (by omega)
                    clear c42
                    obtain ⟨y231, hy231⟩ : ∃ y_ : List Int, y_ = (t217.set (2 : Int).toNat (wrap64 (1048576 + (wrap64 (1 + (Go.bits .and .i64 a1 1023)))))) := ⟨_, rfl⟩
                    replace H : (portagelaw12_ExtraForms.j1 kj5 a0 t212 t215 t216 y231 t220 t221 t222 t223 t224 t225) = some r := by first | (rw [hy231]; with_reducible exact H) | (have H2_ := (Option.bind_some _ _).symm.trans H; rw [hy231]; with_reducible exact H2_) | (have H2_ := (Option.bind_some _ _).symm.trans H; with_reducible exact H2_) | with_reducible exact H | (rw [hy231]; exact H) | exact H
                    have Ny231 := Aside0.mk hy231
                    clear hy231
                    have H' := Aside0.mk H
                    clear H
                    have hnb44 := NB226_211.out
                    have hnc44 := NB211_226.out
                    have hcz45_0 : w27.cell? ⟨gb226, 0, none⟩ = some (.string t215) := (blk_cell BK226.out 0).trans rfl
                    have hcz45_1 : w27.cell? ⟨gb226, 1, none⟩ = some (.bool t216) := (blk_cell BK226.out 1).trans rfl
                    have hcz45_2 : w27.cell? ⟨gb226, 2, none⟩ = some (.slice Ao26 t217.length co26) := (blk_cell BK226.out 2).trans rfl
                    have hcz45_3 : w27.cell? ⟨gb226, 3, none⟩ = some (.int .i64 t220) := (blk_cell BK226.out 3).trans rfl
                    have hcz45_4 : w27.cell? ⟨gb226, 4, none⟩ = some (.int .i64 t221) := (blk_cell BK226.out 4).trans rfl
                    have hcz45_5 : w27.cell? ⟨gb226, 5, none⟩ = some (.int .i64 t222) := (blk_cell BK226.out 5).trans rfl
                    have hcz45_6 : w27.cell? ⟨gb226, 6, none⟩ = some (.string t223) := (blk_cell BK226.out 6).trans rfl
                    have hcz45_7 : w27.cell? ⟨gb226, 7, none⟩ = some (.int .i64 t224) := (blk_cell BK226.out 7).trans rfl
                    have hcz45_8 : w27.cell? ⟨gb226, 8, none⟩ = some (.int .i64 t225) := (blk_cell BK226.out 8).trans rfl
                    have hfz45_0 := blk_frozen BK226.out 0
                    have hfz45_1 := blk_frozen BK226.out 1
                    have hfz45_2 := blk_frozen BK226.out 2
                    have hfz45_3 := blk_frozen BK226.out 3
                    have hfz45_4 := blk_frozen BK226.out 4
                    have hfz45_5 := blk_frozen BK226.out 5
                    have hfz45_6 := blk_frozen BK226.out 6
                    have hfz45_7 := blk_frozen BK226.out 7
                    have hfz45_8 := blk_frozen BK226.out 8
                    have p43 : 0 ≤ (2 : Int) := (by omega)
                    have q43 : (2 : Int) < ((t217.length : Int) : Int) := of_decide_eq_true (by first | (with_reducible assumption) | assumption)
                    have qi43 : (2 < t217.length) = True := eq_true (by omega)
                    obtain ⟨go43, co43, eo43, gb43, gl43, cl43, HG43⟩ := Kd.R_form HO219.out (by omega)
                    (first | cases eo43 | (injection eo43 with ea_ en_ ec_; (first | subst ea_ | (injection ea_ with ea_; subst ea_)); subst ec_; clear en_))
                    have GB43 := Aside0.mk gb43
                    have GG43 := Aside0.mk HG43
                    clear gb43 gl43 HG43
                    obtain ⟨hx43_0, hf43_0⟩ := Kd.R_celln 0 HO219.out (2 : Int) p43 q43
                    (try rw [show ((2 : Int)).toNat = 2 from rfl] at hx43_0)
                    (try simp only [Nat.reduceMul, Nat.zero_mul, Nat.zero_add, Nat.reduceAdd] at hx43_0)
                    (try rw [show ((2 : Int)).toNat = 2 from rfl] at hf43_0)
                    (try simp only [Nat.reduceMul, Nat.zero_mul, Nat.zero_add, Nat.reduceAdd] at hf43_0)
                    replace p43 := eq_true p43
                    replace q43 := eq_true q43
                    have HP46 := Kd.R_putg HO219.out (2 : Int) (wrap64 (1048576 + (wrap64 (1 + (Go.bits .and .i64 a1 1023)))))
                    go_wp2_with (first | ((with_reducible refine gate_store (t := 3) (p := 62) rfl ?_); refine store_event (t := 3) (p := 62) (v := ?vo_w47) (w1 := (w27.setCell ⟨go43, (2 : Int).toNat, none⟩ (.int .i64 (wrap64 (1048576 + (wrap64 (1 + (Go.bits .and .i64 a1 1023)))))))) ?hg ?ho ?hn ?hr ?_; (case ho => rfl); (case hg => rfl); (case hn => rfl); (case hr => first | (go_simp; done) | (go_simp; rfl)); intro w47 hw; have hg : w27.grownBy w47 (some go43) := (by rw [hw]; exact HP46.2); have hp_ : Kd.R (Kd.int .i64) 3 w47 w.heap.size (fun k_ => some k_ ≠ (.slice Ao10 y208.length co10 : Value).ownBlock) (.slice (some ⟨go43, 0, none⟩) t217.length co26) y231 := (by rw [hw, Ny231.out]; exact HP46.1); clear HP46; have n0_ := Aside0.mk (Kd.R_after (v := (.slice (some ⟨go43, 0, none⟩) t217.length co26)) (v1 := (.slice (some ⟨go43, 0, none⟩) t217.length co26)) (ok := (fun _ => True)) (by (with_reducible repeat (first | apply Kd.R_alloc | apply Kd.R_drewN | apply Kd.R_drew)); exact Kd.R_mono HO_212002.out (fun _ hk => ⟨trivial, hk⟩)) hg (.inl rfl)); have n1_ := Aside0.mk (blk_grown (g := gb211) (o := .cells #[.string (⟨#[]⟩ : ByteArray), .bool false, .slice Ao10 y208.length co10, .int .i64 5, .int .i64 3, .int .i64 0, .string (⟨#[]⟩ : ByteArray), .int .i64 0, .int .i64 0] 75 (0, 0)) (by (with_reducible repeat (first | refine blk_drewN ?_ _ | refine blk_drew ?_ | refine blk_alloc ?_ _)); exact BK211.out) hg (Kd.R_ne HO219.out BK211.out (by decide))); have n2_ := Aside0.mk (hp_); have n3_ := Aside0.mk (blk_grown (g := gb226) (o := .cells #[.string t215, .bool t216, .slice (some ⟨go43, 0, none⟩) t217.length co26, .int .i64 t220, .int .i64 t221, .int .i64 t222, .string t223, .int .i64 t224, .int .i64 t225] 75 (0, 0)) (by (with_reducible repeat (first | refine blk_drewN ?_ _ | refine blk_drew ?_ | refine blk_alloc ?_ _)); exact BK226.out) hg (Kd.R_ne HO219.out BK226.out (by decide))); have n4_ := Aside0.mk ((by rw [hw]; exact below_set (HB.out) GB43.out : Below w.heap.size w w47)); clear HO_212002; clear BK211; clear HO219; clear BK226; clear HB; have HO_212002 := n0_; have BK211 := n1_; have HO219 := n2_; have BK226 := n3_; have HB := n4_; clear n0_ n1_ n2_ n3_ n4_; clear hg hw hp_))
                    go_meet
                    case rel => exact ⟨_, (y208), (y231), (t220), (t221), (.slice Ao10 y208.length co10), (.slice (some ⟨go43, 0, none⟩) t217.length co26), H', ⟨by have := HJ5.out; first | omega | exact Nat.le_refl _⟩, ⟨by (with_reducible repeat (first | apply Kd.R_alloc | apply Kd.R_drewN | apply Kd.R_drew)); exact Kd.R_mono HO_212002.out (fun _ hk => hk.2)⟩, ⟨by (with_reducible repeat (first | apply Kd.R_alloc | apply Kd.R_drewN | apply Kd.R_drew)); exact HO219.out⟩, ⟨by (with_reducible repeat (first | refine blk_drewN ?_ _ | refine blk_drew ?_ | refine blk_alloc ?_ _)); exact BK211.out⟩, ⟨by (with_reducible repeat (first | refine blk_drewN ?_ _ | refine blk_drew ?_ | refine blk_alloc ?_ _)); exact BK226.out⟩, ⟨by repeat (first | (with_reducible first | exact HB.out | apply below_alloc | apply pw_below_drewN | apply below_drew1 | refine below_set ?_ GE211.out | refine below_set ?_ GE226.out) | exact HB.out)⟩⟩
                  · rw [if_neg c42] at H
                    exact absurd H (by simp)
                · rw [if_neg c41] at H
                  have c41b0 : ((Int.tmod (IntKind.u64.wrap (a0)) 7) == 2) = false := beq_eq_false_iff_ne.mpr c41
                  have c41b1 : ((Int.tmod (IntKind.u64.wrap (a0)) 7) != 2) = true := bne_iff_ne.mpr c41
                  by_cases c48 : (Int.tmod (IntKind.u64.wrap (a0)) 7) = 3
                  · rw [if_pos c48] at H
                    have c48b0 : ((Int.tmod (IntKind.u64.wrap (a0)) 7) == 3) = true := beq_iff_eq.mpr c48
                    have c48b1 : ((Int.tmod (IntKind.u64.wrap (a0)) 7) != 3) = false := bne_eq_false_iff_eq.mpr c48
                    clear c48
                    have H' := Aside0.mk H
                    clear H
                    have hnb49 := NB226_211.out
                    have hnc49 := NB211_226.out
                    have hcz50_0 : w27.cell? ⟨gb226, 0, none⟩ = some (.string t215) := (blk_cell BK226.out 0).trans rfl
                    have hcz50_1 : w27.cell? ⟨gb226, 1, none⟩ = some (.bool t216) := (blk_cell BK226.out 1).trans rfl
                    have hcz50_2 : w27.cell? ⟨gb226, 2, none⟩ = some (.slice Ao26 t217.length co26) := (blk_cell BK226.out 2).trans rfl
                    have hcz50_3 : w27.cell? ⟨gb226, 3, none⟩ = some (.int .i64 t220) := (blk_cell BK226.out 3).trans rfl
                    have hcz50_4 : w27.cell? ⟨gb226, 4, none⟩ = some (.int .i64 t221) := (blk_cell BK226.out 4).trans rfl
                    have hcz50_5 : w27.cell? ⟨gb226, 5, none⟩ = some (.int .i64 t222) := (blk_cell BK226.out 5).trans rfl
                    have hcz50_6 : w27.cell? ⟨gb226, 6, none⟩ = some (.string t223) := (blk_cell BK226.out 6).trans rfl
                    have hcz50_7 : w27.cell? ⟨gb226, 7, none⟩ = some (.int .i64 t224) := (blk_cell BK226.out 7).trans rfl
                    have hcz50_8 : w27.cell? ⟨gb226, 8, none⟩ = some (.int .i64 t225) := (blk_cell BK226.out 8).trans rfl
                    have hfz50_0 := blk_frozen BK226.out 0
                    have hfz50_1 := blk_frozen BK226.out 1
                    have hfz50_2 := blk_frozen BK226.out 2
                    have hfz50_3 := blk_frozen BK226.out 3
                    have hfz50_4 := blk_frozen BK226.out 4
                    have hfz50_5 := blk_frozen BK226.out 5
                    have hfz50_6 := blk_frozen BK226.out 6
                    have hfz50_7 := blk_frozen BK226.out 7
                    have hfz50_8 := blk_frozen BK226.out 8
                    go_wp2_with (first | ((with_reducible refine gate_store (t := 3) (p := 67) rfl ?_); refine store_event (t := 3) (p := 67) (v := ?vo_w51) (w1 := (w27.setCell ⟨gb226, 3, none⟩ (.int .i64 (wrap64 (1 - (wrap64 (1 + (Go.bits .and .i64 a1 1023)))))))) ?hg ?ho ?hn ?hr ?_; (case ho => rfl); (case hg => rfl); (case hn => rfl); (case hr => first | (go_simp; done) | (go_simp; rfl)); intro w51 hw; have n0_ : Aside0 (Kd.R (Kd.int .i64) 3 w51 w.heap.size (fun k_ => some k_ ≠ (.slice Ao26 t217.length co26 : Value).ownBlock) (.slice Ao10 y208.length co10) y208) := ⟨(by rw [hw]; exact (by (with_reducible repeat (first | apply Kd.R_alloc | apply Kd.R_drewN | apply Kd.R_drew)); exact Kd.R_mono (Kd.R_far (p := ⟨gb226, 3, none⟩) (Kd.R_types HO_212002.out BK226.out (by decide)) (fun _ hk => hk.2) (.int .i64 (wrap64 (1 - (wrap64 (1 + (Go.bits .and .i64 a1 1023))))))) (fun _ hk => hk.1)))⟩; have n1_ : Aside0 (Kd.R (Kd.int .i64) 3 w51 w.heap.size (fun k_ => some k_ ≠ (.slice Ao10 y208.length co10 : Value).ownBlock) (.slice Ao26 t217.length co26) t217) := ⟨(by rw [hw]; exact (by (with_reducible repeat (first | apply Kd.R_alloc | apply Kd.R_drewN | apply Kd.R_drew)); exact Kd.R_mono (Kd.R_far (p := ⟨gb226, 3, none⟩) (Kd.R_types HO219.out BK226.out (by decide)) (fun _ hk => hk.2) (.int .i64 (wrap64 (1 - (wrap64 (1 + (Go.bits .and .i64 a1 1023))))))) (fun _ hk => hk.1)))⟩; have n2_ : Aside0 (w51.heap[gb211]? = some (.cells #[.string (⟨#[]⟩ : ByteArray), .bool false, .slice Ao10 y208.length co10, .int .i64 5, .int .i64 3, .int .i64 0, .string (⟨#[]⟩ : ByteArray), .int .i64 0, .int .i64 0] 75 (0, 0))) := ⟨(by rw [hw]; exact (by (with_reducible repeat (first | refine blk_drewN ?_ _ | refine blk_drew ?_ | refine blk_alloc ?_ _)); refine blk_far ?_ NB211_226.out _; (with_reducible repeat (first | refine blk_drewN ?_ _ | refine blk_drew ?_ | refine blk_alloc ?_ _)); exact BK211.out))⟩; have n3_ : Aside0 (w51.heap[gb226]? = some (.cells #[.string t215, .bool t216, .slice Ao26 t217.length co26, .int .i64 (wrap64 (1 - (wrap64 (1 + (Go.bits .and .i64 a1 1023))))), .int .i64 t221, .int .i64 t222, .string t223, .int .i64 t224, .int .i64 t225] 75 (0, 0))) := ⟨(by rw [hw]; exact (by (with_reducible repeat (first | refine blk_drewN ?_ _ | refine blk_drew ?_ | refine blk_alloc ?_ _)); refine blk_put (cs := #[.string t215, .bool t216, .slice Ao26 t217.length co26, .int .i64 t220, .int .i64 t221, .int .i64 t222, .string t223, .int .i64 t224, .int .i64 t225]) ?_ 3 _ rfl; (with_reducible repeat (first | refine blk_drewN ?_ _ | refine blk_drew ?_ | refine blk_alloc ?_ _)); exact BK226.out))⟩; have n4_ : Aside0 (Below w.heap.size w w51) := ⟨(by rw [hw]; exact (by repeat (first | (with_reducible first | exact HB.out | apply below_alloc | apply pw_below_drewN | apply below_drew1 | refine below_set ?_ GE211.out | refine below_set ?_ GE226.out) | exact HB.out)))⟩; clear hw; clear HO_212002; clear HO219; clear BK211; clear BK226; clear HB; have HO_212002 := n0_; have HO219 := n1_; have BK211 := n2_; have BK226 := n3_; have HB := n4_; clear n0_ n1_ n2_ n3_ n4_))
                    go_meet
                    case rel => exact ⟨_, (y208), (t217), (wrap64 (1 - (wrap64 (1 + (Go.bits .and .i64 a1 1023))))), (t221), (.slice Ao10 y208.length co10), (.slice Ao26 t217.length co26), H', ⟨by have := HJ5.out; first | omega | exact Nat.le_refl _⟩, ⟨by (with_reducible repeat (first | apply Kd.R_alloc | apply Kd.R_drewN | apply Kd.R_drew)); exact HO_212002.out⟩, ⟨by (with_reducible repeat (first | apply Kd.R_alloc | apply Kd.R_drewN | apply Kd.R_drew)); exact HO219.out⟩, ⟨by (with_reducible repeat (first | refine blk_drewN ?_ _ | refine blk_drew ?_ | refine blk_alloc ?_ _)); exact BK211.out⟩, ⟨by (with_reducible repeat (first | refine blk_drewN ?_ _ | refine blk_drew ?_ | refine blk_alloc ?_ _)); exact BK226.out⟩, ⟨by repeat (first | (with_reducible first | exact HB.out | apply below_alloc | apply pw_below_drewN | apply below_drew1 | refine below_set ?_ GE211.out | refine below_set ?_ GE226.out) | exact HB.out)⟩⟩
                  · rw [if_neg c48] at H
                    have c48b0 : ((Int.tmod (IntKind.u64.wrap (a0)) 7) == 3) = false := beq_eq_false_iff_ne.mpr c48
                    have c48b1 : ((Int.tmod (IntKind.u64.wrap (a0)) 7) != 3) = true := bne_iff_ne.mpr c48
                    by_cases c52 : (Int.tmod (IntKind.u64.wrap (a0)) 7) = 4
                    · rw [if_pos c52] at H
                      have c52b0 : ((Int.tmod (IntKind.u64.wrap (a0)) 7) == 4) = true := beq_iff_eq.mpr c52
                      have c52b1 : ((Int.tmod (IntKind.u64.wrap (a0)) 7) != 4) = false := bne_eq_false_iff_eq.mpr c52
                      clear c52
                      have H' := Aside0.mk H
                      clear H
                      have hnb53 := NB226_211.out
                      have hnc53 := NB211_226.out
                      have hcz54_0 : w27.cell? ⟨gb226, 0, none⟩ = some (.string t215) := (blk_cell BK226.out 0).trans rfl
                      have hcz54_1 : w27.cell? ⟨gb226, 1, none⟩ = some (.bool t216) := (blk_cell BK226.out 1).trans rfl
                      have hcz54_2 : w27.cell? ⟨gb226, 2, none⟩ = some (.slice Ao26 t217.length co26) := (blk_cell BK226.out 2).trans rfl
                      have hcz54_3 : w27.cell? ⟨gb226, 3, none⟩ = some (.int .i64 t220) := (blk_cell BK226.out 3).trans rfl
                      have hcz54_4 : w27.cell? ⟨gb226, 4, none⟩ = some (.int .i64 t221) := (blk_cell BK226.out 4).trans rfl
                      have hcz54_5 : w27.cell? ⟨gb226, 5, none⟩ = some (.int .i64 t222) := (blk_cell BK226.out 5).trans rfl
                      have hcz54_6 : w27.cell? ⟨gb226, 6, none⟩ = some (.string t223) := (blk_cell BK226.out 6).trans rfl
                      have hcz54_7 : w27.cell? ⟨gb226, 7, none⟩ = some (.int .i64 t224) := (blk_cell BK226.out 7).trans rfl
                      have hcz54_8 : w27.cell? ⟨gb226, 8, none⟩ = some (.int .i64 t225) := (blk_cell BK226.out 8).trans rfl
                      have hfz54_0 := blk_frozen BK226.out 0
                      have hfz54_1 := blk_frozen BK226.out 1
                      have hfz54_2 := blk_frozen BK226.out 2
                      have hfz54_3 := blk_frozen BK226.out 3
                      have hfz54_4 := blk_frozen BK226.out 4
                      have hfz54_5 := blk_frozen BK226.out 5
                      have hfz54_6 := blk_frozen BK226.out 6
                      have hfz54_7 := blk_frozen BK226.out 7
                      have hfz54_8 := blk_frozen BK226.out 8
                      go_wp2_with (first | ((with_reducible refine gate_store (t := 3) (p := 72) rfl ?_); refine store_event (t := 3) (p := 72) (v := ?vo_w55) (w1 := (w27.setCell ⟨gb226, 3, none⟩ (.int .i64 (wrap64 (1048576 + (wrap64 (1 + (Go.bits .and .i64 a1 1023)))))))) ?hg ?ho ?hn ?hr ?_; (case ho => rfl); (case hg => rfl); (case hn => rfl); (case hr => first | (go_simp; done) | (go_simp; rfl)); intro w55 hw; have n0_ : Aside0 (Kd.R (Kd.int .i64) 3 w55 w.heap.size (fun k_ => some k_ ≠ (.slice Ao26 t217.length co26 : Value).ownBlock) (.slice Ao10 y208.length co10) y208) := ⟨(by rw [hw]; exact (by (with_reducible repeat (first | apply Kd.R_alloc | apply Kd.R_drewN | apply Kd.R_drew)); exact Kd.R_mono (Kd.R_far (p := ⟨gb226, 3, none⟩) (Kd.R_types HO_212002.out BK226.out (by decide)) (fun _ hk => hk.2) (.int .i64 (wrap64 (1048576 + (wrap64 (1 + (Go.bits .and .i64 a1 1023))))))) (fun _ hk => hk.1)))⟩; have n1_ : Aside0 (Kd.R (Kd.int .i64) 3 w55 w.heap.size (fun k_ => some k_ ≠ (.slice Ao10 y208.length co10 : Value).ownBlock) (.slice Ao26 t217.length co26) t217) := ⟨(by rw [hw]; exact (by (with_reducible repeat (first | apply Kd.R_alloc | apply Kd.R_drewN | apply Kd.R_drew)); exact Kd.R_mono (Kd.R_far (p := ⟨gb226, 3, none⟩) (Kd.R_types HO219.out BK226.out (by decide)) (fun _ hk => hk.2) (.int .i64 (wrap64 (1048576 + (wrap64 (1 + (Go.bits .and .i64 a1 1023))))))) (fun _ hk => hk.1)))⟩; have n2_ : Aside0 (w55.heap[gb211]? = some (.cells #[.string (⟨#[]⟩ : ByteArray), .bool false, .slice Ao10 y208.length co10, .int .i64 5, .int .i64 3, .int .i64 0, .string (⟨#[]⟩ : ByteArray), .int .i64 0, .int .i64 0] 75 (0, 0))) := ⟨(by rw [hw]; exact (by (with_reducible repeat (first | refine blk_drewN ?_ _ | refine blk_drew ?_ | refine blk_alloc ?_ _)); refine blk_far ?_ NB211_226.out _; (with_reducible repeat (first | refine blk_drewN ?_ _ | refine blk_drew ?_ | refine blk_alloc ?_ _)); exact BK211.out))⟩; have n3_ : Aside0 (w55.heap[gb226]? = some (.cells #[.string t215, .bool t216, .slice Ao26 t217.length co26, .int .i64 (wrap64 (1048576 + (wrap64 (1 + (Go.bits .and .i64 a1 1023))))), .int .i64 t221, .int .i64 t222, .string t223, .int .i64 t224, .int .i64 t225] 75 (0, 0))) := ⟨(by rw [hw]; exact (by (with_reducible repeat (first | refine blk_drewN ?_ _ | refine blk_drew ?_ | refine blk_alloc ?_ _)); refine blk_put (cs := #[.string t215, .bool t216, .slice Ao26 t217.length co26, .int .i64 t220, .int .i64 t221, .int .i64 t222, .string t223, .int .i64 t224, .int .i64 t225]) ?_ 3 _ rfl; (with_reducible repeat (first | refine blk_drewN ?_ _ | refine blk_drew ?_ | refine blk_alloc ?_ _)); exact BK226.out))⟩; have n4_ : Aside0 (Below w.heap.size w w55) := ⟨(by rw [hw]; exact (by repeat (first | (with_reducible first | exact HB.out | apply below_alloc | apply pw_below_drewN | apply below_drew1 | refine below_set ?_ GE211.out | refine below_set ?_ GE226.out) | exact HB.out)))⟩; clear hw; clear HO_212002; clear HO219; clear BK211; clear BK226; clear HB; have HO_212002 := n0_; have HO219 := n1_; have BK211 := n2_; have BK226 := n3_; have HB := n4_; clear n0_ n1_ n2_ n3_ n4_))
                      go_meet
                      case rel => exact ⟨_, (y208), (t217), (wrap64 (1048576 + (wrap64 (1 + (Go.bits .and .i64 a1 1023))))), (t221), (.slice Ao10 y208.length co10), (.slice Ao26 t217.length co26), H', ⟨by have := HJ5.out; first | omega | exact Nat.le_refl _⟩, ⟨by (with_reducible repeat (first | apply Kd.R_alloc | apply Kd.R_drewN | apply Kd.R_drew)); exact HO_212002.out⟩, ⟨by (with_reducible repeat (first | apply Kd.R_alloc | apply Kd.R_drewN | apply Kd.R_drew)); exact HO219.out⟩, ⟨by (with_reducible repeat (first | refine blk_drewN ?_ _ | refine blk_drew ?_ | refine blk_alloc ?_ _)); exact BK211.out⟩, ⟨by (with_reducible repeat (first | refine blk_drewN ?_ _ | refine blk_drew ?_ | refine blk_alloc ?_ _)); exact BK226.out⟩, ⟨by repeat (first | (with_reducible first | exact HB.out | apply below_alloc | apply pw_below_drewN | apply below_drew1 | refine below_set ?_ GE211.out | refine below_set ?_ GE226.out) | exact HB.out)⟩⟩
                    · rw [if_neg c52] at H
                      have c52b0 : ((Int.tmod (IntKind.u64.wrap (a0)) 7) == 4) = false := beq_eq_false_iff_ne.mpr c52
                      have c52b1 : ((Int.tmod (IntKind.u64.wrap (a0)) 7) != 4) = true := bne_iff_ne.mpr c52
                      by_cases c56 : (Int.tmod (IntKind.u64.wrap (a0)) 7) = 5
                      · rw [if_pos c56] at H
                        have c56b0 : ((Int.tmod (IntKind.u64.wrap (a0)) 7) == 5) = true := beq_iff_eq.mpr c56
                        have c56b1 : ((Int.tmod (IntKind.u64.wrap (a0)) 7) != 5) = false := bne_eq_false_iff_eq.mpr c56
                        clear c56
                        have H' := Aside0.mk H
                        clear H
                        have hnb57 := NB226_211.out
                        have hnc57 := NB211_226.out
                        have hcz58_0 : w27.cell? ⟨gb226, 0, none⟩ = some (.string t215) := (blk_cell BK226.out 0).trans rfl
                        have hcz58_1 : w27.cell? ⟨gb226, 1, none⟩ = some (.bool t216) := (blk_cell BK226.out 1).trans rfl
                        have hcz58_2 : w27.cell? ⟨gb226, 2, none⟩ = some (.slice Ao26 t217.length co26) := (blk_cell BK226.out 2).trans rfl
                        have hcz58_3 : w27.cell? ⟨gb226, 3, none⟩ = some (.int .i64 t220) := (blk_cell BK226.out 3).trans rfl
                        have hcz58_4 : w27.cell? ⟨gb226, 4, none⟩ = some (.int .i64 t221) := (blk_cell BK226.out 4).trans rfl
                        have hcz58_5 : w27.cell? ⟨gb226, 5, none⟩ = some (.int .i64 t222) := (blk_cell BK226.out 5).trans rfl
                        have hcz58_6 : w27.cell? ⟨gb226, 6, none⟩ = some (.string t223) := (blk_cell BK226.out 6).trans rfl
                        have hcz58_7 : w27.cell? ⟨gb226, 7, none⟩ = some (.int .i64 t224) := (blk_cell BK226.out 7).trans rfl
                        have hcz58_8 : w27.cell? ⟨gb226, 8, none⟩ = some (.int .i64 t225) := (blk_cell BK226.out 8).trans rfl
                        have hfz58_0 := blk_frozen BK226.out 0
                        have hfz58_1 := blk_frozen BK226.out 1
                        have hfz58_2 := blk_frozen BK226.out 2
                        have hfz58_3 := blk_frozen BK226.out 3
                        have hfz58_4 := blk_frozen BK226.out 4
                        have hfz58_5 := blk_frozen BK226.out 5
                        have hfz58_6 := blk_frozen BK226.out 6
                        have hfz58_7 := blk_frozen BK226.out 7
                        have hfz58_8 := blk_frozen BK226.out 8
                        go_wp2_with (first | ((with_reducible refine gate_store (t := 3) (p := 77) rfl ?_); refine store_event (t := 3) (p := 77) (v := ?vo_w59) (w1 := (w27.setCell ⟨gb226, 4, none⟩ (.int .i64 (wrap64 (-(wrap64 (1 + (Go.bits .and .i64 a1 1023)))))))) ?hg ?ho ?hn ?hr ?_; (case ho => rfl); (case hg => rfl); (case hn => rfl); (case hr => first | (go_simp; done) | (go_simp; rfl)); intro w59 hw; have n0_ : Aside0 (Kd.R (Kd.int .i64) 3 w59 w.heap.size (fun k_ => some k_ ≠ (.slice Ao26 t217.length co26 : Value).ownBlock) (.slice Ao10 y208.length co10) y208) := ⟨(by rw [hw]; exact (by (with_reducible repeat (first | apply Kd.R_alloc | apply Kd.R_drewN | apply Kd.R_drew)); exact Kd.R_mono (Kd.R_far (p := ⟨gb226, 4, none⟩) (Kd.R_types HO_212002.out BK226.out (by decide)) (fun _ hk => hk.2) (.int .i64 (wrap64 (-(wrap64 (1 + (Go.bits .and .i64 a1 1023))))))) (fun _ hk => hk.1)))⟩; have n1_ : Aside0 (Kd.R (Kd.int .i64) 3 w59 w.heap.size (fun k_ => some k_ ≠ (.slice Ao10 y208.length co10 : Value).ownBlock) (.slice Ao26 t217.length co26) t217) := ⟨(by rw [hw]; exact (by (with_reducible repeat (first | apply Kd.R_alloc | apply Kd.R_drewN | apply Kd.R_drew)); exact Kd.R_mono (Kd.R_far (p := ⟨gb226, 4, none⟩) (Kd.R_types HO219.out BK226.out (by decide)) (fun _ hk => hk.2) (.int .i64 (wrap64 (-(wrap64 (1 + (Go.bits .and .i64 a1 1023))))))) (fun _ hk => hk.1)))⟩; have n2_ : Aside0 (w59.heap[gb211]? = some (.cells #[.string (⟨#[]⟩ : ByteArray), .bool false, .slice Ao10 y208.length co10, .int .i64 5, .int .i64 3, .int .i64 0, .string (⟨#[]⟩ : ByteArray), .int .i64 0, .int .i64 0] 75 (0, 0))) := ⟨(by rw [hw]; exact (by (with_reducible repeat (first | refine blk_drewN ?_ _ | refine blk_drew ?_ | refine blk_alloc ?_ _)); refine blk_far ?_ NB211_226.out _; (with_reducible repeat (first | refine blk_drewN ?_ _ | refine blk_drew ?_ | refine blk_alloc ?_ _)); exact BK211.out))⟩; have n3_ : Aside0 (w59.heap[gb226]? = some (.cells #[.string t215, .bool t216, .slice Ao26 t217.length co26, .int .i64 t220, .int .i64 (wrap64 (-(wrap64 (1 + (Go.bits .and .i64 a1 1023))))), .int .i64 t222, .string t223, .int .i64 t224, .int .i64 t225] 75 (0, 0))) := ⟨(by rw [hw]; exact (by (with_reducible repeat (first | refine blk_drewN ?_ _ | refine blk_drew ?_ | refine blk_alloc ?_ _)); refine blk_put (cs := #[.string t215, .bool t216, .slice Ao26 t217.length co26, .int .i64 t220, .int .i64 t221, .int .i64 t222, .string t223, .int .i64 t224, .int .i64 t225]) ?_ 4 _ rfl; (with_reducible repeat (first | refine blk_drewN ?_ _ | refine blk_drew ?_ | refine blk_alloc ?_ _)); exact BK226.out))⟩; have n4_ : Aside0 (Below w.heap.size w w59) := ⟨(by rw [hw]; exact (by repeat (first | (with_reducible first | exact HB.out | apply below_alloc | apply pw_below_drewN | apply below_drew1 | refine below_set ?_ GE211.out | refine below_set ?_ GE226.out) | exact HB.out)))⟩; clear hw; clear HO_212002; clear HO219; clear BK211; clear BK226; clear HB; have HO_212002 := n0_; have HO219 := n1_; have BK211 := n2_; have BK226 := n3_; have HB := n4_; clear n0_ n1_ n2_ n3_ n4_))
                        go_meet
                        case rel => exact ⟨_, (y208), (t217), (t220), (wrap64 (-(wrap64 (1 + (Go.bits .and .i64 a1 1023))))), (.slice Ao10 y208.length co10), (.slice Ao26 t217.length co26), H', ⟨by have := HJ5.out; first | omega | exact Nat.le_refl _⟩, ⟨by (with_reducible repeat (first | apply Kd.R_alloc | apply Kd.R_drewN | apply Kd.R_drew)); exact HO_212002.out⟩, ⟨by (with_reducible repeat (first | apply Kd.R_alloc | apply Kd.R_drewN | apply Kd.R_drew)); exact HO219.out⟩, ⟨by (with_reducible repeat (first | refine blk_drewN ?_ _ | refine blk_drew ?_ | refine blk_alloc ?_ _)); exact BK211.out⟩, ⟨by (with_reducible repeat (first | refine blk_drewN ?_ _ | refine blk_drew ?_ | refine blk_alloc ?_ _)); exact BK226.out⟩, ⟨by repeat (first | (with_reducible first | exact HB.out | apply below_alloc | apply pw_below_drewN | apply below_drew1 | refine below_set ?_ GE211.out | refine below_set ?_ GE226.out) | exact HB.out)⟩⟩
                      · rw [if_neg c56] at H
                        have c56b0 : ((Int.tmod (IntKind.u64.wrap (a0)) 7) == 5) = false := beq_eq_false_iff_ne.mpr c56
                        have c56b1 : ((Int.tmod (IntKind.u64.wrap (a0)) 7) != 5) = true := bne_iff_ne.mpr c56
                        have H' := Aside0.mk H
                        clear H
                        have hnb60 := NB226_211.out
                        have hnc60 := NB211_226.out
                        have hcz61_0 : w27.cell? ⟨gb226, 0, none⟩ = some (.string t215) := (blk_cell BK226.out 0).trans rfl
                        have hcz61_1 : w27.cell? ⟨gb226, 1, none⟩ = some (.bool t216) := (blk_cell BK226.out 1).trans rfl
                        have hcz61_2 : w27.cell? ⟨gb226, 2, none⟩ = some (.slice Ao26 t217.length co26) := (blk_cell BK226.out 2).trans rfl
                        have hcz61_3 : w27.cell? ⟨gb226, 3, none⟩ = some (.int .i64 t220) := (blk_cell BK226.out 3).trans rfl
                        have hcz61_4 : w27.cell? ⟨gb226, 4, none⟩ = some (.int .i64 t221) := (blk_cell BK226.out 4).trans rfl
                        have hcz61_5 : w27.cell? ⟨gb226, 5, none⟩ = some (.int .i64 t222) := (blk_cell BK226.out 5).trans rfl
                        have hcz61_6 : w27.cell? ⟨gb226, 6, none⟩ = some (.string t223) := (blk_cell BK226.out 6).trans rfl
                        have hcz61_7 : w27.cell? ⟨gb226, 7, none⟩ = some (.int .i64 t224) := (blk_cell BK226.out 7).trans rfl
                        have hcz61_8 : w27.cell? ⟨gb226, 8, none⟩ = some (.int .i64 t225) := (blk_cell BK226.out 8).trans rfl
                        have hfz61_0 := blk_frozen BK226.out 0
                        have hfz61_1 := blk_frozen BK226.out 1
                        have hfz61_2 := blk_frozen BK226.out 2
                        have hfz61_3 := blk_frozen BK226.out 3
                        have hfz61_4 := blk_frozen BK226.out 4
                        have hfz61_5 := blk_frozen BK226.out 5
                        have hfz61_6 := blk_frozen BK226.out 6
                        have hfz61_7 := blk_frozen BK226.out 7
                        have hfz61_8 := blk_frozen BK226.out 8
                        go_wp2_with (first | ((with_reducible refine gate_store (t := 3) (p := 42) rfl ?_); refine store_event (t := 3) (p := 42) (v := ?vo_w62) (w1 := (w27.setCell ⟨gb226, 4, none⟩ (.int .i64 (wrap64 (3 + (wrap64 (1 + (Go.bits .and .i64 a1 1023)))))))) ?hg ?ho ?hn ?hr ?_; (case ho => rfl); (case hg => rfl); (case hn => rfl); (case hr => first | (go_simp; done) | (go_simp; rfl)); intro w62 hw; have n0_ : Aside0 (Kd.R (Kd.int .i64) 3 w62 w.heap.size (fun k_ => some k_ ≠ (.slice Ao26 t217.length co26 : Value).ownBlock) (.slice Ao10 y208.length co10) y208) := ⟨(by rw [hw]; exact (by (with_reducible repeat (first | apply Kd.R_alloc | apply Kd.R_drewN | apply Kd.R_drew)); exact Kd.R_mono (Kd.R_far (p := ⟨gb226, 4, none⟩) (Kd.R_types HO_212002.out BK226.out (by decide)) (fun _ hk => hk.2) (.int .i64 (wrap64 (3 + (wrap64 (1 + (Go.bits .and .i64 a1 1023))))))) (fun _ hk => hk.1)))⟩; have n1_ : Aside0 (Kd.R (Kd.int .i64) 3 w62 w.heap.size (fun k_ => some k_ ≠ (.slice Ao10 y208.length co10 : Value).ownBlock) (.slice Ao26 t217.length co26) t217) := ⟨(by rw [hw]; exact (by (with_reducible repeat (first | apply Kd.R_alloc | apply Kd.R_drewN | apply Kd.R_drew)); exact Kd.R_mono (Kd.R_far (p := ⟨gb226, 4, none⟩) (Kd.R_types HO219.out BK226.out (by decide)) (fun _ hk => hk.2) (.int .i64 (wrap64 (3 + (wrap64 (1 + (Go.bits .and .i64 a1 1023))))))) (fun _ hk => hk.1)))⟩; have n2_ : Aside0 (w62.heap[gb211]? = some (.cells #[.string (⟨#[]⟩ : ByteArray), .bool false, .slice Ao10 y208.length co10, .int .i64 5, .int .i64 3, .int .i64 0, .string (⟨#[]⟩ : ByteArray), .int .i64 0, .int .i64 0] 75 (0, 0))) := ⟨(by rw [hw]; exact (by (with_reducible repeat (first | refine blk_drewN ?_ _ | refine blk_drew ?_ | refine blk_alloc ?_ _)); refine blk_far ?_ NB211_226.out _; (with_reducible repeat (first | refine blk_drewN ?_ _ | refine blk_drew ?_ | refine blk_alloc ?_ _)); exact BK211.out))⟩; have n3_ : Aside0 (w62.heap[gb226]? = some (.cells #[.string t215, .bool t216, .slice Ao26 t217.length co26, .int .i64 t220, .int .i64 (wrap64 (3 + (wrap64 (1 + (Go.bits .and .i64 a1 1023))))), .int .i64 t222, .string t223, .int .i64 t224, .int .i64 t225] 75 (0, 0))) := ⟨(by rw [hw]; exact (by (with_reducible repeat (first | refine blk_drewN ?_ _ | refine blk_drew ?_ | refine blk_alloc ?_ _)); refine blk_put (cs := #[.string t215, .bool t216, .slice Ao26 t217.length co26, .int .i64 t220, .int .i64 t221, .int .i64 t222, .string t223, .int .i64 t224, .int .i64 t225]) ?_ 4 _ rfl; (with_reducible repeat (first | refine blk_drewN ?_ _ | refine blk_drew ?_ | refine blk_alloc ?_ _)); exact BK226.out))⟩; have n4_ : Aside0 (Below w.heap.size w w62) := ⟨(by rw [hw]; exact (by repeat (first | (with_reducible first | exact HB.out | apply below_alloc | apply pw_below_drewN | apply below_drew1 | refine below_set ?_ GE211.out | refine below_set ?_ GE226.out) | exact HB.out)))⟩; clear hw; clear HO_212002; clear HO219; clear BK211; clear BK226; clear HB; have HO_212002 := n0_; have HO219 := n1_; have BK211 := n2_; have BK226 := n3_; have HB := n4_; clear n0_ n1_ n2_ n3_ n4_))
                        go_meet
                        case rel => exact ⟨_, (y208), (t217), (t220), (wrap64 (3 + (wrap64 (1 + (Go.bits .and .i64 a1 1023))))), (.slice Ao10 y208.length co10), (.slice Ao26 t217.length co26), H', ⟨by have := HJ5.out; first | omega | exact Nat.le_refl _⟩, ⟨by (with_reducible repeat (first | apply Kd.R_alloc | apply Kd.R_drewN | apply Kd.R_drew)); exact HO_212002.out⟩, ⟨by (with_reducible repeat (first | apply Kd.R_alloc | apply Kd.R_drewN | apply Kd.R_drew)); exact HO219.out⟩, ⟨by (with_reducible repeat (first | refine blk_drewN ?_ _ | refine blk_drew ?_ | refine blk_alloc ?_ _)); exact BK211.out⟩, ⟨by (with_reducible repeat (first | refine blk_drewN ?_ _ | refine blk_drew ?_ | refine blk_alloc ?_ _)); exact BK226.out⟩, ⟨by repeat (first | (with_reducible first | exact HB.out | apply below_alloc | apply pw_below_drewN | apply below_drew1 | refine below_set ?_ GE211.out | refine below_set ?_ GE226.out) | exact HB.out)⟩⟩
          case rest =>
            clear HC20
            try clear c1
            try clear c2
            try clear p2
            try clear c3
            try clear p3
            try clear q3
            try clear hx3
            try clear qi3
            try clear hf3
            try clear c4
            try clear p4
            try clear q4
            try clear hx4
            try clear qi4
            try clear hf4
            try clear c5
            try clear c6
            try clear p6
            try clear c17
            try clear c17b0
            try clear c17b1
            try clear c18
            try clear c20
            try clear c24
            try clear c28
            try clear c28b0
            try clear c28b1
            try clear c29
            try clear c29b0
            try clear c29b1
            try clear c30
            try clear q32
            try clear c34
            try clear c34b0
            try clear c34b1
            try clear c35
            try clear c35b0
            try clear c35b1
            try clear p36
            try clear q36
            try clear hx36
            try clear qi36
            try clear hf36
            try clear c37
            try clear c41
            try clear c41b0
            try clear c41b1
            try clear c42
            try clear c42b0
            try clear c42b1
            try clear p43
            try clear q43
            try clear hx43
            try clear qi43
            try clear hf43
            try clear c44
            try clear c48
            try clear c48b0
            try clear c48b1
            try clear c49
            try clear c52
            try clear c52b0
            try clear c52b1
            try clear c53
            try clear c56
            try clear c56b0
            try clear c56b1
            try clear c57
            try clear c60
            try clear c61
            try clear hcz12_0
            try clear hcz12_1
            try clear hcz12_2
            try clear hcz12_3
            try clear hcz12_4
            try clear hcz12_5
            try clear hcz12_6
            try clear hcz12_7
            try clear hcz12_8
            try clear hcz14_0
            try clear hcz14_1
            try clear hcz14_2
            try clear hcz14_3
            try clear hcz14_4
            try clear hcz14_5
            try clear hcz14_6
            try clear hcz14_7
            try clear hcz14_8
            try clear hcz21_0
            try clear hcz21_1
            try clear hcz21_2
            try clear hcz21_3
            try clear hcz21_4
            try clear hcz21_5
            try clear hcz21_6
            try clear hcz21_7
            try clear hcz21_8
            try clear hcz25_0
            try clear hcz25_1
            try clear hcz25_2
            try clear hcz25_3
            try clear hcz25_4
            try clear hcz25_5
            try clear hcz25_6
            try clear hcz25_7
            try clear hcz25_8
            try clear hcz31_0
            try clear hcz31_1
            try clear hcz31_2
            try clear hcz31_3
            try clear hcz31_4
            try clear hcz31_5
            try clear hcz31_6
            try clear hcz31_7
            try clear hcz31_8
            try clear hcz38_0
            try clear hcz38_1
            try clear hcz38_2
            try clear hcz38_3
            try clear hcz38_4
            try clear hcz38_5
            try clear hcz38_6
            try clear hcz38_7
            try clear hcz38_8
            try clear hcz45_0
            try clear hcz45_1
            try clear hcz45_2
            try clear hcz45_3
            try clear hcz45_4
            try clear hcz45_5
            try clear hcz45_6
            try clear hcz45_7
            try clear hcz45_8
            try clear hcz50_0
            try clear hcz50_1
            try clear hcz50_2
            try clear hcz50_3
            try clear hcz50_4
            try clear hcz50_5
            try clear hcz50_6
            try clear hcz50_7
            try clear hcz50_8
            try clear hcz54_0
            try clear hcz54_1
            try clear hcz54_2
            try clear hcz54_3
            try clear hcz54_4
            try clear hcz54_5
            try clear hcz54_6
            try clear hcz54_7
            try clear hcz54_8
            try clear hcz58_0
            try clear hcz58_1
            try clear hcz58_2
            try clear hcz58_3
            try clear hcz58_4
            try clear hcz58_5
            try clear hcz58_6
            try clear hcz58_7
            try clear hcz58_8
            try clear hcz61_0
            try clear hcz61_1
            try clear hcz61_2
            try clear hcz61_3
            try clear hcz61_4
            try clear hcz61_5
            try clear hcz61_6
            try clear hcz61_7
            try clear hcz61_8
            try clear hfz12_0
            try clear hfz12_1
            try clear hfz12_2
            try clear hfz12_3
            try clear hfz12_4
            try clear hfz12_5
            try clear hfz12_6
            try clear hfz12_7
            try clear hfz12_8
            try clear hfz14_0
            try clear hfz14_1
            try clear hfz14_2
            try clear hfz14_3
            try clear hfz14_4
            try clear hfz14_5
            try clear hfz14_6
            try clear hfz14_7
            try clear hfz14_8
            try clear hfz21_0
            try clear hfz21_1
            try clear hfz21_2
            try clear hfz21_3
            try clear hfz21_4
            try clear hfz21_5
            try clear hfz21_6
            try clear hfz21_7
            try clear hfz21_8
            try clear hfz25_0
            try clear hfz25_1
            try clear hfz25_2
            try clear hfz25_3
            try clear hfz25_4
            try clear hfz25_5
            try clear hfz25_6
            try clear hfz25_7
            try clear hfz25_8
            try clear hfz31_0
            try clear hfz31_1
            try clear hfz31_2
            try clear hfz31_3
            try clear hfz31_4
            try clear hfz31_5
            try clear hfz31_6
            try clear hfz31_7
            try clear hfz31_8
            try clear hfz38_0
            try clear hfz38_1
            try clear hfz38_2
            try clear hfz38_3
            try clear hfz38_4
            try clear hfz38_5
            try clear hfz38_6
            try clear hfz38_7
            try clear hfz38_8
            try clear hfz45_0
            try clear hfz45_1
            try clear hfz45_2
            try clear hfz45_3
            try clear hfz45_4
            try clear hfz45_5
            try clear hfz45_6
            try clear hfz45_7
            try clear hfz45_8
            try clear hfz50_0
            try clear hfz50_1
            try clear hfz50_2
            try clear hfz50_3
            try clear hfz50_4
            try clear hfz50_5
            try clear hfz50_6
            try clear hfz50_7
            try clear hfz50_8
            try clear hfz54_0
            try clear hfz54_1
            try clear hfz54_2
            try clear hfz54_3
            try clear hfz54_4
            try clear hfz54_5
            try clear hfz54_6
            try clear hfz54_7
            try clear hfz54_8
            try clear hfz58_0
            try clear hfz58_1
            try clear hfz58_2
            try clear hfz58_3
            try clear hfz58_4
            try clear hfz58_5
            try clear hfz58_6
            try clear hfz58_7
            try clear hfz58_8
            try clear hfz61_0
            try clear hfz61_1
            try clear hfz61_2
            try clear hfz61_3
            try clear hfz61_4
            try clear hfz61_5
            try clear hfz61_6
            try clear hfz61_7
            try clear hfz61_8
            try clear hx36_0
            try clear hx43_0
            try clear p2
            try clear p36
            try clear p43
            try clear p6
            try clear q32
            try clear q36
            try clear q43
            obtain ⟨kq, x212002_19, x227002_19, x227003_19, x227004_19, u212002, u227002, HA, HJ19, HO_212002, HO_227002, BK211, BK226, HB⟩ := hcut
            cases kq with
            | zero => exact absurd HA.out (by simp [portagelaw12_ExtraForms.j1])
            | succ kj19 =>
              have H := HA.out
              clear HA
              simp only [portagelaw12_ExtraForms.j1] at H
              replace H := Option.bind_eq_some_iff.mp H
              obtain ⟨⟨t232, t233⟩, A630, H⟩ := H
              replace H : (if 0 ≤ 25 then (if 25 ≤ (t212.size : Int) then (if t212.size + 1 ≤ 9223372036854775807 then (if 2 ≤ (t212.size : Int) then (if 2 + (t212.extract 2 t212.size).size ≤ 9223372036854775807 then (if 3 ≤ (t212.size : Int) then (if 3 + (t212.extract 3 t212.size).size ≤ 9223372036854775807 then (if 0 ≤ 24 then (if 24 ≤ (t212.size : Int) then (if (t212.extract 0 24).size + 2 ≤ 9223372036854775807 then (if (t212.extract 0 25).size + 1 ≤ 9223372036854775807 then (if 0 ≤ 20 then (if 20 ≤ (t212.size : Int) then (if (t212.extract 0 20).size + 4 ≤ 9223372036854775807 then (if ((t212.extract 0 20) ++ (⟨#[0, 0, 0, 0]⟩ : ByteArray)).size + (t212.extract 24 t212.size).size ≤ 9223372036854775807 then (if 0 ≤ 7 then (if 7 ≤ (t212.size : Int) then (if (t212.extract 0 7).size + 1 ≤ 9223372036854775807 then (if 8 ≤ (t212.size : Int) then (if ((t212.extract 0 7) ++ (⟨#[1]⟩ : ByteArray)).size + (t212.extract 8 t212.size).size ≤ 9223372036854775807 then ((some (([(⟨#[]⟩ : ByteArray), t212.extract 0 25, t212 ++ (⟨#[0]⟩ : ByteArray), (⟨#[112, 112]⟩ : ByteArray) ++ (t212.extract 2 t212.size), (⟨#[112, 80, 23]⟩ : ByteArray) ++ (t212.extract 3 t212.size), (t212.extract 0 24) ++ (⟨#[4, 0]⟩ : ByteArray), (t212.extract 0 25) ++ (⟨#[2]⟩ : ByteArray), ((t212.extract 0 20) ++ (⟨#[0, 0, 0, 0]⟩ : ByteArray)) ++ (t212.extract 24 t212.size), ((t212.extract 0 7) ++ (⟨#[1]⟩ : ByteArray)) ++ (t212.extract 8 t212.size)] : List ByteArray) : List ByteArray)).bind fun y234 => (if 0 ≤ (wrap64 (Int.tmod (IntKind.u64.wrap (a0)) 9)) then (if (wrap64 (Int.tmod (IntKind.u64.wrap (a0)) 9)) < (y234.length : Int) then ((extra_Get.f kj19 (rdOf ByteArray.empty y234 (wrap64 (Int.tmod (IntKind.u64.wrap (a0)) 9)))).bind fun bt238 => (if t232.toList = ([] : List UInt8) then ((portagelaw0_Num.f t233).bind fun t251 => (if t251 = 1200 then ((portagelaw0_SameEntry.f kj19 bt238.1 bt238.2.1 bt238.2.2.1 bt238.2.2.2.1 bt238.2.2.2.2.1 bt238.2.2.2.2.2.1 bt238.2.2.2.2.2.2.1 bt238.2.2.2.2.2.2.2.1 bt238.2.2.2.2.2.2.2.2.1 (⟨#[]⟩ : ByteArray) false ([] : List Int) 0 0 0 (⟨#[]⟩ : ByteArray) 0 0).bind fun t252 => (if t252 = true then ((portagelaw0_Num.f bt238.2.2.2.2.2.2.2.2.2).bind fun t253 => (some (t253 == 1200))) else (none))) else (none))) else (none))) else (none)) else (none))) else (none)) else (none)) else (none)) else (none)) else (none)) else (none)) else (none)) else (none)) else (none)) else (none)) else (none)) else (none)) else (none)) else (none)) else (none)) else (none)) else (none)) else (none)) else (none)) else (none)) = some r := H
              have A63 := Aside0.mk A630
              clear A630
              by_cases c64 : 0 ≤ 25
              · rw [if_pos c64] at H
                have c64b0 := eq_true c64
                have c64b1 : decide (0 ≤ 25) = true := decide_eq_true c64
                clear c64
                by_cases c65 : 25 ≤ (t212.size : Int)
                · rw [if_pos c65] at H
                  have c65b0 := eq_true c65
                  have c65b1 : decide (25 ≤ (t212.size : Int)) = true := decide_eq_true c65
                  clear c65
                  by_cases c66 : t212.size + 1 ≤ 9223372036854775807
                  · rw [if_pos c66] at H
                    have c66b0 := eq_true c66
                    have c66b1 : decide (t212.size + 1 ≤ 9223372036854775807) = true := decide_eq_true c66
                    try have c66b2 : (9223372036854775807 < t212.size + 1) = False := eq_false (Nat.not_lt.2 c66)
                    by_cases c67 : 2 ≤ (t212.size : Int)
                    · rw [if_pos c67] at H
                      have c67b0 := eq_true c67
                      have c67b1 : decide (2 ≤ (t212.size : Int)) = true := decide_eq_true c67
                      clear c67
                      by_cases c68 : 2 + (t212.extract 2 t212.size).size ≤ 9223372036854775807
                      · rw [if_pos c68] at H
                        have c68b0 := eq_true c68
                        have c68b1 : decide (2 + (t212.extract 2 t212.size).size ≤ 9223372036854775807) = true := decide_eq_true c68
                        try have c68b2 : (9223372036854775807 < 2 + (t212.extract 2 t212.size).size) = False := eq_false (Nat.not_lt.2 c68)
                        have c68b9 : (9223372036854775807 < 2 + (t212.extract 2 t212.size).size) = False := eq_false (Nat.not_lt.2 c68)
                        (first | (simp only [ByteArray.size_append, show (t212.extract 2 t212.size).size = t212.size - 2 from by rw [ByteArray.size_extract]; omega] at c68b9) | (try simp only [ByteArray.size_append] at c68b9))
                        by_cases c69 : 3 ≤ (t212.size : Int)
                        · rw [if_pos c69] at H
                          have c69b0 := eq_true c69
                          have c69b1 : decide (3 ≤ (t212.size : Int)) = true := decide_eq_true c69
                          clear c69
                          by_cases c70 : 3 + (t212.extract 3 t212.size).size ≤ 9223372036854775807
                          · rw [if_pos c70] at H
                            have c70b0 := eq_true c70
                            have c70b1 : decide (3 + (t212.extract 3 t212.size).size ≤ 9223372036854775807) = true := decide_eq_true c70
                            try have c70b2 : (9223372036854775807 < 3 + (t212.extract 3 t212.size).size) = False := eq_false (Nat.not_lt.2 c70)
                            have c70b9 : (9223372036854775807 < 3 + (t212.extract 3 t212.size).size) = False := eq_false (Nat.not_lt.2 c70)
                            (first | (simp only [ByteArray.size_append, show (t212.extract 3 t212.size).size = t212.size - 3 from by rw [ByteArray.size_extract]; omega] at c70b9) | (try simp only [ByteArray.size_append] at c70b9))
                            by_cases c71 : 0 ≤ 24
                            · rw [if_pos c71] at H
                              have c71b0 := eq_true c71
                              have c71b1 : decide (0 ≤ 24) = true := decide_eq_true c71
                              clear c71
                              by_cases c72 : 24 ≤ (t212.size : Int)
                              · rw [if_pos c72] at H
                                have c72b0 := eq_true c72
                                have c72b1 : decide (24 ≤ (t212.size : Int)) = true := decide_eq_true c72
                                clear c72
                                by_cases c73 : (t212.extract 0 24).size + 2 ≤ 9223372036854775807
                                · rw [if_pos c73] at H
                                  have c73b0 := eq_true c73
                                  have c73b1 : decide ((t212.extract 0 24).size + 2 ≤ 9223372036854775807) = true := decide_eq_true c73
                                  try have c73b2 : (9223372036854775807 < (t212.extract 0 24).size + 2) = False := eq_false (Nat.not_lt.2 c73)
                                  have c73b9 : (9223372036854775807 < (t212.extract 0 24).size + 2) = False := eq_false (Nat.not_lt.2 c73)
                                  (first | (simp only [ByteArray.size_append, show (t212.extract 0 24).size = min 24 t212.size from by rw [ByteArray.size_extract]; omega] at c73b9) | (try simp only [ByteArray.size_append] at c73b9))
                                  have c74b0 := eq_true (of_decide_eq_true (by first | (with_reducible assumption) | assumption) : 0 ≤ 25)
                                  have c75b0 := eq_true (of_decide_eq_true (by first | (with_reducible assumption) | assumption) : 25 ≤ (t212.size : Int))
                                  by_cases c76 : (t212.extract 0 25).size + 1 ≤ 9223372036854775807
                                  · rw [if_pos c76] at H
                                    have c76b0 := eq_true c76
                                    have c76b1 : decide ((t212.extract 0 25).size + 1 ≤ 9223372036854775807) = true := decide_eq_true c76
                                    try have c76b2 : (9223372036854775807 < (t212.extract 0 25).size + 1) = False := eq_false (Nat.not_lt.2 c76)
                                    have c76b9 : (9223372036854775807 < (t212.extract 0 25).size + 1) = False := eq_false (Nat.not_lt.2 c76)
                                    (first | (simp only [ByteArray.size_append, show (t212.extract 0 25).size = min 25 t212.size from by rw [ByteArray.size_extract]; omega] at c76b9) | (try simp only [ByteArray.size_append] at c76b9))
                                    by_cases c77 : 0 ≤ 20
                                    · rw [if_pos c77] at H
                                      have c77b0 := eq_true c77
                                      have c77b1 : decide (0 ≤ 20) = true := decide_eq_true c77
                                      clear c77
                                      by_cases c78 : 20 ≤ (t212.size : Int)
                                      · rw [if_pos c78] at H
                                        have c78b0 := eq_true c78
                                        have c78b1 : decide (20 ≤ (t212.size : Int)) = true := decide_eq_true c78
                                        clear c78
                                        by_cases c79 : (t212.extract 0 20).size + 4 ≤ 9223372036854775807
                                        · rw [if_pos c79] at H
                                          have c79b0 := eq_true c79
                                          have c79b1 : decide ((t212.extract 0 20).size + 4 ≤ 9223372036854775807) = true := decide_eq_true c79
                                          try have c79b2 : (9223372036854775807 < (t212.extract 0 20).size + 4) = False := eq_false (Nat.not_lt.2 c79)
                                          have c79b9 : (9223372036854775807 < (t212.extract 0 20).size + 4) = False := eq_false (Nat.not_lt.2 c79)
                                          (first | (simp only [ByteArray.size_append, show (t212.extract 0 20).size = min 20 t212.size from by rw [ByteArray.size_extract]; omega] at c79b9) | (try simp only [ByteArray.size_append] at c79b9))
                                          have c80b0 := eq_true (of_decide_eq_true (by first | (with_reducible assumption) | assumption) : 24 ≤ (t212.size : Int))
                                          by_cases c81 : ((t212.extract 0 20) ++ (⟨#[0, 0, 0, 0]⟩ : ByteArray)).size + (t212.extract 24 t212.size).size ≤ 9223372036854775807
                                          · rw [if_pos c81] at H
                                            have c81b0 := eq_true c81
                                            have c81b1 : decide (((t212.extract 0 20) ++ (⟨#[0, 0, 0, 0]⟩ : ByteArray)).size + (t212.extract 24 t212.size).size ≤ 9223372036854775807) = true := decide_eq_true c81
                                            try have c81b2 : (9223372036854775807 < ((t212.extract 0 20) ++ (⟨#[0, 0, 0, 0]⟩ : ByteArray)).size + (t212.extract 24 t212.size).size) = False := eq_false (Nat.not_lt.2 c81)
                                            have c81b9 : (9223372036854775807 < ((t212.extract 0 20) ++ (⟨#[0, 0, 0, 0]⟩ : ByteArray)).size + (t212.extract 24 t212.size).size) = False := eq_false (Nat.not_lt.2 c81)
                                            (first | (simp only [ByteArray.size_append, show (⟨#[0, 0, 0, 0]⟩ : ByteArray).size = 4 from rfl, show (t212.extract 0 20).size = min 20 t212.size from by rw [ByteArray.size_extract]; omega, show (t212.extract 24 t212.size).size = t212.size - 24 from by rw [ByteArray.size_extract]; omega] at c81b9) | (try simp only [ByteArray.size_append, show (⟨#[0, 0, 0, 0]⟩ : ByteArray).size = 4 from rfl] at c81b9))
                                            by_cases c82 : 0 ≤ 7
                                            · rw [if_pos c82] at H
                                              have c82b0 := eq_true c82
                                              have c82b1 : decide (0 ≤ 7) = true := decide_eq_true c82
                                              clear c82
                                              by_cases c83 : 7 ≤ (t212.size : Int)
                                              · rw [if_pos c83] at H
                                                have c83b0 := eq_true c83
                                                have c83b1 : decide (7 ≤ (t212.size : Int)) = true := decide_eq_true c83
                                                clear c83
                                                by_cases c84 : (t212.extract 0 7).size + 1 ≤ 9223372036854775807
                                                · rw [if_pos c84] at H
                                                  have c84b0 := eq_true c84
                                                  have c84b1 : decide ((t212.extract 0 7).size + 1 ≤ 9223372036854775807) = true := decide_eq_true c84
                                                  try have c84b2 : (9223372036854775807 < (t212.extract 0 7).size + 1) = False := eq_false (Nat.not_lt.2 c84)
                                                  have c84b9 : (9223372036854775807 < (t212.extract 0 7).size + 1) = False := eq_false (Nat.not_lt.2 c84)
                                                  (first | (simp only [ByteArray.size_append, show (t212.extract 0 7).size = min 7 t212.size from by rw [ByteArray.size_extract]; omega] at c84b9) | (try simp only [ByteArray.size_append] at c84b9))
                                                  by_cases c85 : 8 ≤ (t212.size : Int)
                                                  · rw [if_pos c85] at H
                                                    have c85b0 := eq_true c85
                                                    have c85b1 : decide (8 ≤ (t212.size : Int)) = true := decide_eq_true c85
                                                    clear c85
                                                    by_cases c86 : ((t212.extract 0 7) ++ (⟨#[1]⟩ : ByteArray)).size + (t212.extract 8 t212.size).size ≤ 9223372036854775807
                                                    · rw [if_pos c86] at H
                                                      have c86b0 := eq_true c86
                                                      have c86b1 : decide (((t212.extract 0 7) ++ (⟨#[1]⟩ : ByteArray)).size + (t212.extract 8 t212.size).size ≤ 9223372036854775807) = true := decide_eq_true c86
                                                      try have c86b2 : (9223372036854775807 < ((t212.extract 0 7) ++ (⟨#[1]⟩ : ByteArray)).size + (t212.extract 8 t212.size).size) = False := eq_false (Nat.not_lt.2 c86)
                                                      have c86b9 : (9223372036854775807 < ((t212.extract 0 7) ++ (⟨#[1]⟩ : ByteArray)).size + (t212.extract 8 t212.size).size) = False := eq_false (Nat.not_lt.2 c86)
                                                      (first | (simp only [ByteArray.size_append, show (⟨#[1]⟩ : ByteArray).size = 1 from rfl, show (t212.extract 0 7).size = min 7 t212.size from by rw [ByteArray.size_extract]; omega, show (t212.extract 8 t212.size).size = t212.size - 8 from by rw [ByteArray.size_extract]; omega] at c86b9) | (try simp only [ByteArray.size_append, show (⟨#[1]⟩ : ByteArray).size = 1 from rfl] at c86b9))
                                                      obtain ⟨y234, hy234⟩ : ∃ y_ : List ByteArray, y_ = (([(⟨#[]⟩ : ByteArray), t212.extract 0 25, t212 ++ (⟨#[0]⟩ : ByteArray), (⟨#[112, 112]⟩ : ByteArray) ++ (t212.extract 2 t212.size), (⟨#[112, 80, 23]⟩ : ByteArray) ++ (t212.extract 3 t212.size), (t212.extract 0 24) ++ (⟨#[4, 0]⟩ : ByteArray), (t212.extract 0 25) ++ (⟨#[2]⟩ : ByteArray), ((t212.extract 0 20) ++ (⟨#[0, 0, 0, 0]⟩ : ByteArray)) ++ (t212.extract 24 t212.size), ((t212.extract 0 7) ++ (⟨#[1]⟩ : ByteArray)) ++ (t212.extract 8 t212.size)] : List ByteArray)) := ⟨_, rfl⟩
                                                      replace H : (if 0 ≤ (wrap64 (Int.tmod (IntKind.u64.wrap (a0)) 9)) then (if (wrap64 (Int.tmod (IntKind.u64.wrap (a0)) 9)) < (y234.length : Int) then ((extra_Get.f kj19 (rdOf ByteArray.empty y234 (wrap64 (Int.tmod (IntKind.u64.wrap (a0)) 9)))).bind fun bt238 => (if t232.toList = ([] : List UInt8) then ((portagelaw0_Num.f t233).bind fun t251 => (if t251 = 1200 then ((portagelaw0_SameEntry.f kj19 bt238.1 bt238.2.1 bt238.2.2.1 bt238.2.2.2.1 bt238.2.2.2.2.1 bt238.2.2.2.2.2.1 bt238.2.2.2.2.2.2.1 bt238.2.2.2.2.2.2.2.1 bt238.2.2.2.2.2.2.2.2.1 (⟨#[]⟩ : ByteArray) false ([] : List Int) 0 0 0 (⟨#[]⟩ : ByteArray) 0 0).bind fun t252 => (if t252 = true then ((portagelaw0_Num.f bt238.2.2.2.2.2.2.2.2.2).bind fun t253 => (some (t253 == 1200))) else (none))) else (none))) else (none))) else (none)) else (none)) = some r := by first | (rw [hy234]; with_reducible exact H) | (have H2_ := (Option.bind_some _ _).symm.trans H; rw [hy234]; with_reducible exact H2_) | (have H2_ := (Option.bind_some _ _).symm.trans H; with_reducible exact H2_) | with_reducible exact H | (rw [hy234]; exact H) | exact H
                                                      have Ny234 := Aside0.mk hy234
                                                      clear hy234
                                                      obtain ⟨ji87, hji87⟩ : ∃ j_ : Int, (wrap64 (Int.tmod (IntKind.u64.wrap (a0)) 9)) = j_ := ⟨_, rfl⟩
                                                      replace H : (if 0 ≤ (ji87) then (if (ji87) < (y234.length : Int) then ((extra_Get.f kj19 (rdOf ByteArray.empty y234 (ji87))).bind fun bt238 => (if t232.toList = ([] : List UInt8) then ((portagelaw0_Num.f t233).bind fun t251 => (if t251 = 1200 then ((portagelaw0_SameEntry.f kj19 bt238.1 bt238.2.1 bt238.2.2.1 bt238.2.2.2.1 bt238.2.2.2.2.1 bt238.2.2.2.2.2.1 bt238.2.2.2.2.2.2.1 bt238.2.2.2.2.2.2.2.1 bt238.2.2.2.2.2.2.2.2.1 (⟨#[]⟩ : ByteArray) false ([] : List Int) 0 0 0 (⟨#[]⟩ : ByteArray) 0 0).bind fun t252 => (if t252 = true then ((portagelaw0_Num.f bt238.2.2.2.2.2.2.2.2.2).bind fun t253 => (some (t253 == 1200))) else (none))) else (none))) else (none))) else (none)) else (none)) = some r := by first | (rw [hji87] at H; exact H) | (simp only [hji87] at H ⊢; exact H)
                                                      (try rw [hji87] at A63)
                                                      have hji87w : (IntKind.i64.wrap (Int.tmod (IntKind.u64.wrap (a0)) 9)) = ji87 := (i64_w _).trans hji87
                                                      by_cases c88 : 0 ≤ (ji87)
                                                      · rw [if_pos c88] at H
                                                        have c88b0 : decide (0 ≤ (ji87)) = true := decide_eq_true c88
                                                        clear c88
                                                        by_cases c89 : (ji87) < (y234.length : Int)
                                                        · rw [if_pos c89] at H
                                                          have c89b0 : decide ((ji87) < (y234.length : Int)) = true := decide_eq_true c89
                                                          clear c89
                                                          replace H := Option.bind_eq_some_iff.mp H
                                                          obtain ⟨⟨t238, t239, t240, t243, t244, t245, t246, t247, t248, t249⟩, A900, H⟩ := H
                                                          replace H : (if t232.toList = ([] : List UInt8) then ((portagelaw0_Num.f t233).bind fun t251 => (if t251 = 1200 then ((portagelaw0_SameEntry.f kj19 t238 t239 t240 t243 t244 t245 t246 t247 t248 (⟨#[]⟩ : ByteArray) false ([] : List Int) 0 0 0 (⟨#[]⟩ : ByteArray) 0 0).bind fun t252 => (if t252 = true then ((portagelaw0_Num.f t249).bind fun t253 => (some (t253 == 1200))) else (none))) else (none))) else (none)) = some r := H
                                                          have A90 := Aside0.mk A900
                                                          clear A900
                                                          by_cases c91 : t232.toList = ([] : List UInt8)
                                                          · rw [if_pos c91] at H
                                                            have c91b0 : (t232.toList == ([] : List UInt8)) = true := beq_iff_eq.mpr c91
                                                            have c91b1 : (t232.toList != ([] : List UInt8)) = false := bne_eq_false_iff_eq.mpr c91
                                                            clear c91
                                                            replace H := Option.bind_eq_some_iff.mp H
                                                            obtain ⟨t251, A920, H⟩ := H
                                                            replace H : (if t251 = 1200 then ((portagelaw0_SameEntry.f kj19 t238 t239 t240 t243 t244 t245 t246 t247 t248 (⟨#[]⟩ : ByteArray) false ([] : List Int) 0 0 0 (⟨#[]⟩ : ByteArray) 0 0).bind fun t252 => (if t252 = true then ((portagelaw0_Num.f t249).bind fun t253 => (some (t253 == 1200))) else (none))) else (none)) = some r := H
                                                            have A92 := Aside0.mk A920
                                                            clear A920
                                                            by_cases c93 : t251 = 1200
                                                            · rw [if_pos c93] at H
                                                              have c93b0 : (t251 == 1200) = true := beq_iff_eq.mpr c93
                                                              have c93b1 : (t251 != 1200) = false := bne_eq_false_iff_eq.mpr c93
                                                              clear c93
                                                              replace H := Option.bind_eq_some_iff.mp H
                                                              obtain ⟨t252, A940, H⟩ := H
                                                              replace H : (if t252 = true then ((portagelaw0_Num.f t249).bind fun t253 => (some (t253 == 1200))) else (none)) = some r := H
                                                              have A94 := Aside0.mk A940
                                                              clear A940
                                                              by_cases c95 : t252 = true
                                                              · subst c95
                                                                have H1 : ((portagelaw0_Num.f t249).bind fun t253 => (some (t253 == 1200))) = some r := by rw [if_pos rfl] at H; exact H
                                                                clear H
                                                                have H := H1
                                                                clear H1
                                                                replace H := Option.bind_eq_some_iff.mp H
                                                                obtain ⟨t253, A960, H⟩ := H
                                                                replace H : (some (t253 == 1200)) = some r := H
                                                                have A96 := Aside0.mk A960
                                                                clear A960
                                                                obtain rfl := Option.some.inj H
                                                                have hnb97 := NB226_211.out
                                                                have hnc97 := NB211_226.out
                                                                have hcz98_0 : wc.cell? ⟨gb226, 0, none⟩ = some (.string t215) := (blk_cell BK226.out 0).trans rfl
                                                                have hcz98_1 : wc.cell? ⟨gb226, 1, none⟩ = some (.bool t216) := (blk_cell BK226.out 1).trans rfl
                                                                have hcz98_2 : wc.cell? ⟨gb226, 2, none⟩ = some (u227002) := (blk_cell BK226.out 2).trans rfl
                                                                have hcz98_3 : wc.cell? ⟨gb226, 3, none⟩ = some (.int .i64 x227003_19) := (blk_cell BK226.out 3).trans rfl
                                                                have hcz98_4 : wc.cell? ⟨gb226, 4, none⟩ = some (.int .i64 x227004_19) := (blk_cell BK226.out 4).trans rfl
                                                                have hcz98_5 : wc.cell? ⟨gb226, 5, none⟩ = some (.int .i64 t222) := (blk_cell BK226.out 5).trans rfl
                                                                have hcz98_6 : wc.cell? ⟨gb226, 6, none⟩ = some (.string t223) := (blk_cell BK226.out 6).trans rfl
                                                                have hcz98_7 : wc.cell? ⟨gb226, 7, none⟩ = some (.int .i64 t224) := (blk_cell BK226.out 7).trans rfl
                                                                have hcz98_8 : wc.cell? ⟨gb226, 8, none⟩ = some (.int .i64 t225) := (blk_cell BK226.out 8).trans rfl
                                                                have hfz98_0 := blk_frozen BK226.out 0
                                                                have hfz98_1 := blk_frozen BK226.out 1
                                                                have hfz98_2 := blk_frozen BK226.out 2
                                                                have hfz98_3 := blk_frozen BK226.out 3
                                                                have hfz98_4 := blk_frozen BK226.out 4
                                                                have hfz98_5 := blk_frozen BK226.out 5
                                                                have hfz98_6 := blk_frozen BK226.out 6
                                                                have hfz98_7 := blk_frozen BK226.out 7
                                                                have hfz98_8 := blk_frozen BK226.out 8
                                                                obtain ⟨Ao99, co99, eo99⟩ := Kd.R_slice HO_227002.out
                                                                subst eo99
                                                                try go_wp2_with (first | ((with_reducible refine gate_callee (f := 61) rfl ?_); refine goesL_ (some 80) rfl rfl Try.func61 (by kernel_rfl) rfl #[.agg #[.string t215, .bool t216, .slice Ao99 x227002_19.length co99, .int .i64 x227003_19, .int .i64 x227004_19, .int .i64 t222, .string t223, .int .i64 t224, .int .i64 t225]] rfl (by (try simp only [List.map_toArray, List.map_cons, List.map_nil]); first | done | rfl | (simp only [List.length_drop, List.length_take]; rfl)) ?_; (with_reducible refine (extra_Put.calls kj19 t215 t216 _ _ x227002_19 x227003_19 x227004_19 t222 t223 t224 t225 t232 t233 _ ?side1 ?side2 A63.out).mono ?_); (case side1 => repeat (first | exact (Kd.R_reads' HO_227002.out).2.2 | (with_reducible refine Kd.C_alloc ?_ _) | (with_reducible refine Kd.C_drewN ?_ _) | (with_reducible refine Kd.C_drew ?_))); (case side2 => exact (Kd.R_reads' HO_227002.out).2.1); rintro e w100 ⟨rfl, hb⟩; refine ⟨_, rfl, ?_⟩; have n0_ := Aside0.mk (Kd.R_below (by (with_reducible repeat (first | apply Kd.R_alloc | apply Kd.R_drewN | apply Kd.R_drew)); exact HO_212002.out) hb); have n1_ := Aside0.mk (Kd.R_below (by (with_reducible repeat (first | apply Kd.R_alloc | apply Kd.R_drewN | apply Kd.R_drew)); exact HO_227002.out) hb); have n2_ := Aside0.mk (blk_below (g := gb211) (o := .cells #[.string (⟨#[]⟩ : ByteArray), .bool false, u212002, .int .i64 5, .int .i64 3, .int .i64 0, .string (⟨#[]⟩ : ByteArray), .int .i64 0, .int .i64 0] 75 (0, 0)) (by (with_reducible repeat (first | refine blk_drewN ?_ _ | refine blk_drew ?_ | refine blk_alloc ?_ _)); exact BK211.out) hb); have n3_ := Aside0.mk (blk_below (g := gb226) (o := .cells #[.string t215, .bool t216, .slice Ao99 x227002_19.length co99, .int .i64 x227003_19, .int .i64 x227004_19, .int .i64 t222, .string t223, .int .i64 t224, .int .i64 t225] 75 (0, 0)) (by (with_reducible repeat (first | refine blk_drewN ?_ _ | refine blk_drew ?_ | refine blk_alloc ?_ _)); exact BK226.out) hb); have n4_ := Aside0.mk (below_step (by repeat (first | (with_reducible first | exact HB.out | apply below_alloc | apply pw_below_drewN | apply below_drew1 | refine below_set ?_ GE211.out | refine below_set ?_ GE226.out) | exact HB.out)) hb); clear HO_212002; clear HO_227002; clear BK211; clear BK226; clear HB; have HO_212002 := n0_; have HO_227002 := n1_; have BK211 := n2_; have BK226 := n3_; have HB := n4_; clear n0_ n1_ n2_ n3_ n4_; (try clear hb); (try clear hb2); (try clear hk); (try clear hi)))
                                                                have n0_ := Aside0.mk (Kd.R_drew HO_212002.out)
                                                                have n1_ := Aside0.mk (Kd.R_drew HO_227002.out)
                                                                have n2_ := Aside0.mk (blk_drew BK211.out)
                                                                have n3_ := Aside0.mk (blk_drew BK226.out)
                                                                have n4_ := Aside0.mk (below_drew1 HB.out)
                                                                clear HO_212002
                                                                clear HO_227002
                                                                clear BK211
                                                                clear BK226
                                                                clear HB
                                                                have HO_212002 := n0_
                                                                have HO_227002 := n1_
                                                                have BK211 := n2_
                                                                have BK226 := n3_
                                                                have HB := n4_
                                                                clear n0_ n1_ n2_ n3_ n4_
                                                                refine start_ (n := 30) (S := fun w' => True) (ds := []) #[false, false, false, false, false, false, false, false, false, false, false, false, false, false, false, false, false, false, false, false, false, false, false, false, false, false, false, false, false, false] (by kernel_rfl) rfl rfl trivial (fun hHeld => ?_); refine with_tabW portagelaw12_ExtraForms.tab24 portagelaw12_ExtraForms.bits24 (fun HT_ HW_ => ?_)
                                                                generalize w100.drew = w101 at HO_212002 HO_227002 BK211 BK226 HB hHeld ⊢
                                                                refine pure_ (i := 0) (N := some 83) (v := ?_) (a' := ?_) #[true, false, false, false, false, false, false, false, false, false, false, false, false, false, false, false, false, false, false, false, false, false, false, false, false, false, false, false, false, false] rfl rfl (any_of HT_.out (by kernel_rfl)) (fun _ _ _ h => h) (Or.inl ⟨by rfl, ?_⟩) ?_ ?_
                                                                rotate_left
                                                                · intro w'
                                                                  go_simp
                                                                  with_reducible rfl
                                                                rotate_left
                                                                · simp only [Act.put, List.setIfInBounds_toArray, List.set_cons_zero, List.set_cons_succ, i64_w, i32_w, IntKind.wrap_u8, IntKind.wrap_u32]
                                                                  rfl
                                                                refine pure_ (i := 1) (N := some 84) (v := ?_) (a' := ?_) #[true, true, false, false, false, false, false, false, false, false, false, false, false, false, false, false, false, false, false, false, false, false, false, false, false, false, false, false, false, false] rfl rfl (any_of HT_.out (by kernel_rfl)) (fun _ _ _ h => h) (Or.inl ⟨by rfl, ?_⟩) ?_ ?_
                                                                rotate_left
                                                                · intro w'
                                                                  go_simp
                                                                  with_reducible rfl
                                                                rotate_left
                                                                · simp only [Act.put, List.setIfInBounds_toArray, List.set_cons_zero, List.set_cons_succ, i64_w, i32_w, IntKind.wrap_u8, IntKind.wrap_u32]
                                                                  rfl
                                                                refine pure_ (i := 2) (N := some 85) (v := ?_) (a' := ?_) #[true, true, true, false, false, false, false, false, false, false, false, false, false, false, false, false, false, false, false, false, false, false, false, false, false, false, false, false, false, false] rfl rfl (any_of HT_.out (by kernel_rfl)) (fun _ _ _ h => h) (Or.inl ⟨by rfl, ?_⟩) ?_ ?_
                                                                rotate_left
                                                                · intro w'
                                                                  go_simp
                                                                  with_reducible rfl
                                                                rotate_left
                                                                · simp only [Act.put, List.setIfInBounds_toArray, List.set_cons_zero, List.set_cons_succ, i64_w, i32_w, IntKind.wrap_u8, IntKind.wrap_u32]
                                                                  rfl
                                                                refine pure_ (i := 3) (N := some 86) (v := ?_) (a' := ?_) #[true, true, true, true, false, false, false, false, false, false, false, false, false, false, false, false, false, false, false, false, false, false, false, false, false, false, false, false, false, false] rfl rfl (any_of HT_.out (by kernel_rfl)) (fun _ _ _ h => h) (Or.inl ⟨by rfl, ?_⟩) ?_ ?_
                                                                rotate_left
                                                                · intro w'
                                                                  go_simp
                                                                  with_reducible rfl
                                                                rotate_left
                                                                · simp only [Act.put, List.setIfInBounds_toArray, List.set_cons_zero, List.set_cons_succ, i64_w, i32_w, IntKind.wrap_u8, IntKind.wrap_u32]
                                                                  rfl
                                                                refine pure_ (i := 4) (N := some 87) (v := ?_) (a' := ?_) #[true, true, true, true, true, false, false, false, false, false, false, false, false, false, false, false, false, false, false, false, false, false, false, false, false, false, false, false, false, false] rfl rfl (any_of HT_.out (by kernel_rfl)) (fun _ _ _ h => h) (Or.inl ⟨by rfl, ?_⟩) ?_ ?_
                                                                rotate_left
                                                                · intro w'
                                                                  go_simp
                                                                  with_reducible rfl
                                                                rotate_left
                                                                · simp only [Act.put, List.setIfInBounds_toArray, List.set_cons_zero, List.set_cons_succ, i64_w, i32_w, IntKind.wrap_u8, IntKind.wrap_u32]
                                                                  rfl
                                                                refine pure_ (i := 5) (N := some 88) (v := ?_) (a' := ?_) #[true, true, true, true, true, true, false, false, false, false, false, false, false, false, false, false, false, false, false, false, false, false, false, false, false, false, false, false, false, false] rfl rfl (any_of HT_.out (by kernel_rfl)) (fun _ _ _ h => h) (Or.inl ⟨by rfl, ?_⟩) ?_ ?_
                                                                rotate_left
                                                                · intro w'
                                                                  go_simp
                                                                  with_reducible rfl
                                                                rotate_left
                                                                · simp only [Act.put, List.setIfInBounds_toArray, List.set_cons_zero, List.set_cons_succ, i64_w, i32_w, IntKind.wrap_u8, IntKind.wrap_u32]
                                                                  rfl
                                                                refine pure_ (i := 6) (N := some 89) (v := ?_) (a' := ?_) #[true, true, true, true, true, true, true, false, false, false, false, false, false, false, false, false, false, false, false, false, false, false, false, false, false, false, false, false, false, false] rfl rfl (any_of HT_.out (by kernel_rfl)) (fun _ _ _ h => h) (Or.inl ⟨by rfl, ?_⟩) ?_ ?_
                                                                rotate_left
                                                                · intro w'
                                                                  go_simp
                                                                  with_reducible rfl
                                                                rotate_left
                                                                · simp only [Act.put, List.setIfInBounds_toArray, List.set_cons_zero, List.set_cons_succ, i64_w, i32_w, IntKind.wrap_u8, IntKind.wrap_u32]
                                                                  rfl
                                                                refine pure_ (i := 7) (N := some 90) (v := ?_) (a' := ?_) #[true, true, true, true, true, true, true, true, false, false, false, false, false, false, false, false, false, false, false, false, false, false, false, false, false, false, false, false, false, false] rfl rfl (any_of HT_.out (by kernel_rfl)) (fun _ _ _ h => h) (Or.inl ⟨by rfl, ?_⟩) ?_ ?_
                                                                rotate_left
                                                                · intro w'
                                                                  go_simp
                                                                  with_reducible rfl
                                                                rotate_left
                                                                · simp only [Act.put, List.setIfInBounds_toArray, List.set_cons_zero, List.set_cons_succ, i64_w, i32_w, IntKind.wrap_u8, IntKind.wrap_u32]
                                                                  rfl
                                                                refine pure_ (i := 8) (N := some 91) (v := ?_) (a' := ?_) #[true, true, true, true, true, true, true, true, true, false, false, false, false, false, false, false, false, false, false, false, false, false, false, false, false, false, false, false, false, false] rfl rfl (any_of HT_.out (by kernel_rfl)) (fun _ _ _ h => h) (Or.inl ⟨by rfl, ?_⟩) ?_ ?_
                                                                rotate_left
                                                                · intro w'
                                                                  go_simp
                                                                  with_reducible rfl
                                                                rotate_left
                                                                · simp only [Act.put, List.setIfInBounds_toArray, List.set_cons_zero, List.set_cons_succ, i64_w, i32_w, IntKind.wrap_u8, IntKind.wrap_u32]
                                                                  rfl
                                                                refine pure_ (i := 9) (N := some 92) (v := ?_) (a' := ?_) #[true, true, true, true, true, true, true, true, true, true, false, false, false, false, false, false, false, false, false, false, false, false, false, false, false, false, false, false, false, false] rfl rfl (any_of HT_.out (by kernel_rfl)) (fun _ _ _ h => h) (Or.inl ⟨by rfl, ?_⟩) ?_ ?_
                                                                rotate_left
                                                                · intro w'
                                                                  go_simp
                                                                  with_reducible rfl
                                                                rotate_left
                                                                · simp only [Act.put, List.setIfInBounds_toArray, List.set_cons_zero, List.set_cons_succ, i64_w, i32_w, IntKind.wrap_u8, IntKind.wrap_u32]
                                                                  rfl
                                                                refine pure_ (i := 10) (N := some 93) (v := ?_) (a' := ?_) #[true, true, true, true, true, true, true, true, true, true, true, false, false, false, false, false, false, false, false, false, false, false, false, false, false, false, false, false, false, false] rfl rfl (any_of HT_.out (by kernel_rfl)) (fun _ _ _ h => h) (Or.inl ⟨by rfl, ?_⟩) ?_ ?_
                                                                rotate_left
                                                                · intro w'
                                                                  go_simp
                                                                  with_reducible rfl
                                                                rotate_left
                                                                · simp only [Act.put, List.setIfInBounds_toArray, List.set_cons_zero, List.set_cons_succ, i64_w, i32_w, IntKind.wrap_u8, IntKind.wrap_u32]
                                                                  rfl
                                                                refine pure_ (i := 11) (N := some 94) (v := ?_) (a' := ?_) #[true, true, true, true, true, true, true, true, true, true, true, true, false, false, false, false, false, false, false, false, false, false, false, false, false, false, false, false, false, false] rfl rfl (any_of HT_.out (by kernel_rfl)) (fun _ _ _ h => h) (Or.inl ⟨by rfl, ?_⟩) ?_ ?_
                                                                rotate_left
                                                                · intro w'
                                                                  go_simp
                                                                  with_reducible rfl
                                                                rotate_left
                                                                · simp only [Act.put, List.setIfInBounds_toArray, List.set_cons_zero, List.set_cons_succ, i64_w, i32_w, IntKind.wrap_u8, IntKind.wrap_u32]
                                                                  rfl
                                                                refine pure_ (i := 12) (N := some 95) (v := ?_) (a' := ?_) #[true, true, true, true, true, true, true, true, true, true, true, true, true, false, false, false, false, false, false, false, false, false, false, false, false, false, false, false, false, false] rfl rfl (any_of HT_.out (by kernel_rfl)) (fun _ _ _ h => h) (Or.inl ⟨by rfl, ?_⟩) ?_ ?_
                                                                rotate_left
                                                                · intro w'
                                                                  go_simp
                                                                  with_reducible rfl
                                                                rotate_left
                                                                · simp only [Act.put, List.setIfInBounds_toArray, List.set_cons_zero, List.set_cons_succ, i64_w, i32_w, IntKind.wrap_u8, IntKind.wrap_u32]
                                                                  rfl
                                                                refine pure_ (i := 13) (N := some 96) (v := ?_) (a' := ?_) #[true, true, true, true, true, true, true, true, true, true, true, true, true, true, false, false, false, false, false, false, false, false, false, false, false, false, false, false, false, false] rfl rfl (any_of HT_.out (by kernel_rfl)) (fun _ _ _ h => h) (Or.inl ⟨by rfl, ?_⟩) ?_ ?_
                                                                rotate_left
                                                                · intro w'
                                                                  go_simp
                                                                  with_reducible rfl
                                                                rotate_left
                                                                · simp only [Act.put, List.setIfInBounds_toArray, List.set_cons_zero, List.set_cons_succ, i64_w, i32_w, IntKind.wrap_u8, IntKind.wrap_u32]
                                                                  rfl
                                                                refine pure_ (i := 14) (N := some 97) (v := ?_) (a' := ?_) #[true, true, true, true, true, true, true, true, true, true, true, true, true, true, true, false, false, false, false, false, false, false, false, false, false, false, false, false, false, false] rfl rfl (any_of HT_.out (by kernel_rfl)) (fun _ _ _ h => h) (Or.inl ⟨by rfl, ?_⟩) ?_ ?_
                                                                rotate_left
                                                                · intro w'
                                                                  go_simp
                                                                  with_reducible rfl
                                                                rotate_left
                                                                · simp only [Act.put, List.setIfInBounds_toArray, List.set_cons_zero, List.set_cons_succ, i64_w, i32_w, IntKind.wrap_u8, IntKind.wrap_u32]
                                                                  rfl
                                                                refine pure_ (i := 15) (N := some 98) (v := ?_) (a' := ?_) #[true, true, true, true, true, true, true, true, true, true, true, true, true, true, true, true, false, false, false, false, false, false, false, false, false, false, false, false, false, false] rfl rfl (any_of HT_.out (by kernel_rfl)) (fun _ _ _ h => h) (Or.inl ⟨by rfl, ?_⟩) ?_ ?_
                                                                rotate_left
                                                                · intro w'
                                                                  go_simp
                                                                  with_reducible rfl
                                                                rotate_left
                                                                · simp only [Act.put, List.setIfInBounds_toArray, List.set_cons_zero, List.set_cons_succ, i64_w, i32_w, IntKind.wrap_u8, IntKind.wrap_u32]
                                                                  rfl
                                                                refine pure_ (i := 16) (N := some 99) (v := ?_) (a' := ?_) #[true, true, true, true, true, true, true, true, true, true, true, true, true, true, true, true, true, false, false, false, false, false, false, false, false, false, false, false, false, false] rfl rfl (any_of HT_.out (by kernel_rfl)) (fun _ _ _ h => h) (Or.inl ⟨by rfl, ?_⟩) ?_ ?_
                                                                rotate_left
                                                                · intro w'
                                                                  go_simp
                                                                  with_reducible rfl
                                                                rotate_left
                                                                · simp only [Act.put, List.setIfInBounds_toArray, List.set_cons_zero, List.set_cons_succ, i64_w, i32_w, IntKind.wrap_u8, IntKind.wrap_u32]
                                                                  rfl
                                                                refine pure_ (i := 17) (N := some 100) (v := ?_) (a' := ?_) #[true, true, true, true, true, true, true, true, true, true, true, true, true, true, true, true, true, true, false, false, false, false, false, false, false, false, false, false, false, false] rfl rfl (any_of HT_.out (by kernel_rfl)) (fun _ _ _ h => h) (Or.inl ⟨by rfl, ?_⟩) ?_ ?_
                                                                rotate_left
                                                                · intro w'
                                                                  go_simp
                                                                  with_reducible rfl
                                                                rotate_left
                                                                · simp only [Act.put, List.setIfInBounds_toArray, List.set_cons_zero, List.set_cons_succ, i64_w, i32_w, IntKind.wrap_u8, IntKind.wrap_u32]
                                                                  rfl
                                                                refine pure_ (i := 18) (N := some 101) (v := ?_) (a' := ?_) #[true, true, true, true, true, true, true, true, true, true, true, true, true, true, true, true, true, true, true, false, false, false, false, false, false, false, false, false, false, false] rfl rfl (any_of HT_.out (by kernel_rfl)) (fun _ _ _ h => h) (Or.inl ⟨by rfl, ?_⟩) ?_ ?_
                                                                rotate_left
                                                                · intro w'
                                                                  go_simp
                                                                  with_reducible rfl
                                                                rotate_left
                                                                · simp only [Act.put, List.setIfInBounds_toArray, List.set_cons_zero, List.set_cons_succ, i64_w, i32_w, IntKind.wrap_u8, IntKind.wrap_u32]
                                                                  rfl
                                                                refine pure_ (i := 19) (N := some 102) (v := ?_) (a' := ?_) #[true, true, true, true, true, true, true, true, true, true, true, true, true, true, true, true, true, true, true, true, false, false, false, false, false, false, false, false, false, false] rfl rfl (any_of HT_.out (by kernel_rfl)) (fun _ _ _ h => h) (Or.inl ⟨by rfl, ?_⟩) ?_ ?_
                                                                rotate_left
                                                                · intro w'
                                                                  go_simp
                                                                  with_reducible rfl
                                                                rotate_left
                                                                · simp only [Act.put, List.setIfInBounds_toArray, List.set_cons_zero, List.set_cons_succ, i64_w, i32_w, IntKind.wrap_u8, IntKind.wrap_u32]
                                                                  rfl
                                                                refine pure_ (i := 20) (N := some 103) (v := ?_) (a' := ?_) #[true, true, true, true, true, true, true, true, true, true, true, true, true, true, true, true, true, true, true, true, true, false, false, false, false, false, false, false, false, false] rfl rfl (any_of HT_.out (by kernel_rfl)) (fun _ _ _ h => h) (Or.inl ⟨by rfl, ?_⟩) ?_ ?_
                                                                rotate_left
                                                                · intro w'
                                                                  go_simp
                                                                  with_reducible rfl
                                                                rotate_left
                                                                · simp only [Act.put, List.setIfInBounds_toArray, List.set_cons_zero, List.set_cons_succ, i64_w, i32_w, IntKind.wrap_u8, IntKind.wrap_u32]
                                                                  rfl
                                                                refine pure_ (i := 21) (N := some 104) (v := ?_) (a' := ?_) #[true, true, true, true, true, true, true, true, true, true, true, true, true, true, true, true, true, true, true, true, true, true, false, false, false, false, false, false, false, false] rfl rfl (any_of HT_.out (by kernel_rfl)) (fun _ _ _ h => h) (Or.inl ⟨by rfl, ?_⟩) ?_ ?_
                                                                rotate_left
                                                                · intro w'
                                                                  go_simp
                                                                  with_reducible rfl
                                                                rotate_left
                                                                · simp only [Act.put, List.setIfInBounds_toArray, List.set_cons_zero, List.set_cons_succ, i64_w, i32_w, IntKind.wrap_u8, IntKind.wrap_u32]
                                                                  rfl
                                                                refine pure_ (i := 22) (N := some 105) (v := ?_) (a' := ?_) #[true, true, true, true, true, true, true, true, true, true, true, true, true, true, true, true, true, true, true, true, true, true, true, false, false, false, false, false, false, false] rfl rfl (any_of HT_.out (by kernel_rfl)) (fun _ _ _ h => h) (Or.inl ⟨by rfl, ?_⟩) ?_ ?_
                                                                rotate_left
                                                                · intro w'
                                                                  go_simp
                                                                  with_reducible rfl
                                                                rotate_left
                                                                · simp only [Act.put, List.setIfInBounds_toArray, List.set_cons_zero, List.set_cons_succ, i64_w, i32_w, IntKind.wrap_u8, IntKind.wrap_u32]
                                                                  rfl
                                                                refine pure_ (i := 23) (N := some 106) (v := ?_) (a' := ?_) #[true, true, true, true, true, true, true, true, true, true, true, true, true, true, true, true, true, true, true, true, true, true, true, true, false, false, false, false, false, false] rfl rfl (any_of HT_.out (by kernel_rfl)) (fun _ _ _ h => h) (Or.inl ⟨by rfl, ?_⟩) ?_ ?_
                                                                rotate_left
                                                                · intro w'
                                                                  go_simp
                                                                  with_reducible rfl
                                                                rotate_left
                                                                · simp only [Act.put, List.setIfInBounds_toArray, List.set_cons_zero, List.set_cons_succ, i64_w, i32_w, IntKind.wrap_u8, IntKind.wrap_u32]
                                                                  rfl
                                                                refine pure_ (i := 24) (N := some 107) (v := ?_) (a' := ?_) #[true, true, true, true, true, true, true, true, true, true, true, true, true, true, true, true, true, true, true, true, true, true, true, true, true, false, false, false, false, false] rfl rfl (any_of HT_.out (by kernel_rfl)) (fun _ _ _ h => h) (Or.inl ⟨by rfl, ?_⟩) ?_ ?_
                                                                rotate_left
                                                                · intro w'
                                                                  go_simp
                                                                  with_reducible rfl
                                                                rotate_left
                                                                · simp only [Act.put, List.setIfInBounds_toArray, List.set_cons_zero, List.set_cons_succ, i64_w, i32_w, IntKind.wrap_u8, IntKind.wrap_u32]
                                                                  rfl
                                                                refine pure_ (i := 25) (N := some 108) (v := ?_) (a' := ?_) #[true, true, true, true, true, true, true, true, true, true, true, true, true, true, true, true, true, true, true, true, true, true, true, true, true, true, false, false, false, false] rfl rfl (any_of HT_.out (by kernel_rfl)) (fun _ _ _ h => h) (Or.inl ⟨by rfl, ?_⟩) ?_ ?_
                                                                rotate_left
                                                                · intro w'
                                                                  go_simp
                                                                  with_reducible rfl
                                                                rotate_left
                                                                · simp only [Act.put, List.setIfInBounds_toArray, List.set_cons_zero, List.set_cons_succ, i64_w, i32_w, IntKind.wrap_u8, IntKind.wrap_u32]
                                                                  rfl
                                                                refine pure_ (i := 26) (N := some 109) (v := ?_) (a' := ?_) #[true, true, true, true, true, true, true, true, true, true, true, true, true, true, true, true, true, true, true, true, true, true, true, true, true, true, true, false, false, false] rfl rfl (any_of HT_.out (by kernel_rfl)) (fun _ _ _ h => h) (Or.inl ⟨by rfl, ?_⟩) ?_ ?_
                                                                rotate_left
                                                                · intro w'
                                                                  go_simp
                                                                  with_reducible rfl
                                                                rotate_left
                                                                · simp only [Act.put, List.setIfInBounds_toArray, List.set_cons_zero, List.set_cons_succ, i64_w, i32_w, IntKind.wrap_u8, IntKind.wrap_u32]
                                                                  rfl
                                                                refine pure_ (i := 27) (N := some 110) (v := ?_) (a' := ?_) #[true, true, true, true, true, true, true, true, true, true, true, true, true, true, true, true, true, true, true, true, true, true, true, true, true, true, true, true, false, false] rfl rfl (any_of HT_.out (by kernel_rfl)) (fun _ _ _ h => h) (Or.inl ⟨by rfl, ?_⟩) ?_ ?_
                                                                rotate_left
                                                                · intro w'
                                                                  go_simp
                                                                  with_reducible rfl
                                                                rotate_left
                                                                · simp only [Act.put, List.setIfInBounds_toArray, List.set_cons_zero, List.set_cons_succ, i64_w, i32_w, IntKind.wrap_u8, IntKind.wrap_u32]
                                                                  rfl
                                                                refine one_ (i := 28) (N := some 111) #[true, true, true, true, true, true, true, true, true, true, true, true, true, true, true, true, true, true, true, true, true, true, true, true, true, true, true, true, true, false] rfl rfl (one_of HT_.out (by kernel_rfl)) (by decide) (fun K hK => ?_)
                                                                refine Kd.R_lit_step Kd.string _ 9 ?hg (N := 111) ?hd (xs := ([(⟨#[]⟩ : ByteArray), t212.extract 0 25, t212 ++ (⟨#[0]⟩ : ByteArray), (⟨#[112, 112]⟩ : ByteArray) ++ (t212.extract 2 t212.size), (⟨#[112, 80, 23]⟩ : ByteArray) ++ (t212.extract 3 t212.size), (t212.extract 0 24) ++ (⟨#[4, 0]⟩ : ByteArray), (t212.extract 0 25) ++ (⟨#[2]⟩ : ByteArray), ((t212.extract 0 20) ++ (⟨#[0, 0, 0, 0]⟩ : ByteArray)) ++ (t212.extract 24 t212.size), ((t212.extract 0 7) ++ (⟨#[1]⟩ : ByteArray)) ++ (t212.extract 8 t212.size)] : List ByteArray)) (inner := [.string (⟨#[]⟩ : ByteArray), .string (t212.extract 0 25), .string (t212 ++ (⟨#[0]⟩ : ByteArray)), .string ((⟨#[112, 112]⟩ : ByteArray) ++ (t212.extract 2 t212.size)), .string ((⟨#[112, 80, 23]⟩ : ByteArray) ++ (t212.extract 3 t212.size)), .string ((t212.extract 0 24) ++ (⟨#[4, 0]⟩ : ByteArray)), .string ((t212.extract 0 25) ++ (⟨#[2]⟩ : ByteArray)), .string (((t212.extract 0 20) ++ (⟨#[0, 0, 0, 0]⟩ : ByteArray)) ++ (t212.extract 24 t212.size)), .string (((t212.extract 0 7) ++ (⟨#[1]⟩ : ByteArray)) ++ (t212.extract 8 t212.size))]) (ok := fun _ => True) (okp := fun _ => True) ?hr ?hp (fun _ hk => hk) trivial (Below.refl _ _) (Nat.le_refl _) (by simp) ?_; (case hd => rfl); (case hg => rfl); (case hr => first | (go_simp; done) | (go_simp; rfl)); (case hp => exact (Reps.one (show Kd.M Kd.string _ _ _ (⟨#[]⟩ : ByteArray) [.string (⟨#[]⟩ : ByteArray)] from rfl) (Reps.one (show Kd.M Kd.string _ _ _ (t212.extract 0 25) [.string (t212.extract 0 25)] from rfl) (Reps.one (show Kd.M Kd.string _ _ _ (t212 ++ (⟨#[0]⟩ : ByteArray)) [.string (t212 ++ (⟨#[0]⟩ : ByteArray))] from rfl) (Reps.one (show Kd.M Kd.string _ _ _ ((⟨#[112, 112]⟩ : ByteArray) ++ (t212.extract 2 t212.size)) [.string ((⟨#[112, 112]⟩ : ByteArray) ++ (t212.extract 2 t212.size))] from rfl) (Reps.one (show Kd.M Kd.string _ _ _ ((⟨#[112, 80, 23]⟩ : ByteArray) ++ (t212.extract 3 t212.size)) [.string ((⟨#[112, 80, 23]⟩ : ByteArray) ++ (t212.extract 3 t212.size))] from rfl) (Reps.one (show Kd.M Kd.string _ _ _ ((t212.extract 0 24) ++ (⟨#[4, 0]⟩ : ByteArray)) [.string ((t212.extract 0 24) ++ (⟨#[4, 0]⟩ : ByteArray))] from rfl) (Reps.one (show Kd.M Kd.string _ _ _ ((t212.extract 0 25) ++ (⟨#[2]⟩ : ByteArray)) [.string ((t212.extract 0 25) ++ (⟨#[2]⟩ : ByteArray))] from rfl) (Reps.one (show Kd.M Kd.string _ _ _ (((t212.extract 0 20) ++ (⟨#[0, 0, 0, 0]⟩ : ByteArray)) ++ (t212.extract 24 t212.size)) [.string (((t212.extract 0 20) ++ (⟨#[0, 0, 0, 0]⟩ : ByteArray)) ++ (t212.extract 24 t212.size))] from rfl) (Reps.one (show Kd.M Kd.string _ _ _ (((t212.extract 0 7) ++ (⟨#[1]⟩ : ByteArray)) ++ (t212.extract 8 t212.size)) [.string (((t212.extract 0 7) ++ (⟨#[1]⟩ : ByteArray)) ++ (t212.extract 8 t212.size))] from rfl) (Reps.none _ _)))))))))))
                                                                intro v235 w102 ho103 hb hg_ hnew_
                                                                clear hg_ hnew_
                                                                (first | rw [← Ny234.out] at ho103 | (simp only [Int.reduceToNat] at ho103; rw [← Ny234.out] at ho103))
                                                                have n0_ := Aside0.mk (Kd.R_below (by (with_reducible repeat (first | apply Kd.R_alloc | apply Kd.R_drewN | apply Kd.R_drew)); exact HO_212002.out) hb)
                                                                have n1_ := Aside0.mk (Kd.R_below (by (with_reducible repeat (first | apply Kd.R_alloc | apply Kd.R_drewN | apply Kd.R_drew)); exact HO_227002.out) hb)
                                                                have n2_ := Aside0.mk (Kd.R_lower ho103 (below_size (by repeat (first | (with_reducible first | exact HB.out | apply below_alloc | apply pw_below_drewN | apply below_drew1 | refine below_set ?_ GE211.out | refine below_set ?_ GE226.out) | exact HB.out))))
                                                                have n3_ := Aside0.mk (blk_below (g := gb211) (o := .cells #[.string (⟨#[]⟩ : ByteArray), .bool false, u212002, .int .i64 5, .int .i64 3, .int .i64 0, .string (⟨#[]⟩ : ByteArray), .int .i64 0, .int .i64 0] 75 (0, 0)) (by (with_reducible repeat (first | refine blk_drewN ?_ _ | refine blk_drew ?_ | refine blk_alloc ?_ _)); exact BK211.out) hb)
                                                                have n4_ := Aside0.mk (blk_below (g := gb226) (o := .cells #[.string t215, .bool t216, .slice Ao99 x227002_19.length co99, .int .i64 x227003_19, .int .i64 x227004_19, .int .i64 t222, .string t223, .int .i64 t224, .int .i64 t225] 75 (0, 0)) (by (with_reducible repeat (first | refine blk_drewN ?_ _ | refine blk_drew ?_ | refine blk_alloc ?_ _)); exact BK226.out) hb)
                                                                have n5_ := Aside0.mk (below_step (by repeat (first | (with_reducible first | exact HB.out | apply below_alloc | apply pw_below_drewN | apply below_drew1 | refine below_set ?_ GE211.out | refine below_set ?_ GE226.out) | exact HB.out)) hb)
                                                                clear HO_212002
                                                                clear HO_227002
                                                                clear BK211
                                                                clear BK226
                                                                clear HB
                                                                have HO_212002 := n0_
                                                                have HO_227002 := n1_
                                                                have HO236 := n2_
                                                                have BK211 := n3_
                                                                have BK226 := n4_
                                                                have HB := n5_
                                                                clear n0_ n1_ n2_ n3_ n4_ n5_
                                                                clear hb ho103
                                                                refine hK.out _ _ trivial (fun hHeld => ?_)
                                                                clear hK K
                                                                refine norm_ (a' := ?_) ?_ ?_
                                                                rotate_left
                                                                · show Act.put _ (some 111) _ = _
                                                                  simp only [Act.put, List.setIfInBounds_toArray, List.set_cons_zero, List.set_cons_succ, i64_w, i32_w, IntKind.wrap_u8, IntKind.wrap_u32]
                                                                  rfl
                                                                refine pure_ (i := 29) (N := some 12) (v := ?_) (a' := ?_) #[true, true, true, true, true, true, true, true, true, true, true, true, true, true, true, true, true, true, true, true, true, true, true, true, true, true, true, true, true, true] rfl rfl (any_of HT_.out (by kernel_rfl)) (fun _ _ _ h => h) (Or.inl ⟨by rfl, ?_⟩) ?_ ?_
                                                                rotate_left
                                                                · intro w'
                                                                  go_simp
                                                                  with_reducible rfl
                                                                rotate_left
                                                                · simp only [Act.put, List.setIfInBounds_toArray, List.set_cons_zero, List.set_cons_succ, i64_w, i32_w, IntKind.wrap_u8, IntKind.wrap_u32]
                                                                  rfl
                                                                refine done_ (done_of HT_.out (by kernel_rfl)) ?_
                                                                obtain ⟨Ao104, co104, eo104⟩ := Kd.R_slice HO236.out
                                                                subst eo104
                                                                have p237 : 0 ≤ ((ji87) : Int) := of_decide_eq_true (by first | (with_reducible assumption) | assumption)
                                                                have q237 : (ji87) < (y234.length : Int) := of_decide_eq_true (by first | (with_reducible assumption) | assumption)
                                                                obtain ⟨ad237, e237, hx237_0⟩ := Kd.at_string (Kd.R_reads' HO236.out).2.2 (ji87) p237 q237
                                                                cases e237
                                                                replace p237 := eq_true p237
                                                                replace q237 := eq_true q237
                                                                try go_wp2_with (first | ((with_reducible refine gate_callee (f := 63) rfl ?_); refine goesL_ (some 120) rfl rfl Try.func63 (by kernel_rfl) rfl #[.string (rdOf ByteArray.empty y234 (ji87))] rfl (by (try simp only [List.map_toArray, List.map_cons, List.map_nil]); first | done | (simp only [hji87]; rfl) | rfl | (simp only [List.length_drop, List.length_take]; rfl)) ?_; (with_reducible refine (extra_Get.calls kj19 (rdOf ByteArray.empty y234 (ji87)) t238 t239 t240 t243 t244 t245 t246 t247 t248 t249 _ A90.out).mono ?_); rintro e w105 ⟨v241, rfl, ho0, hb⟩; refine ⟨_, rfl, ?_⟩; have n0_ := Aside0.mk (Kd.R_elder' (by (with_reducible repeat (first | apply Kd.R_alloc | apply Kd.R_drewN | apply Kd.R_drew)); exact HO_212002.out) (Kd.R_base ho0) hb); have n1_ := Aside0.mk (Kd.R_elder' (by (with_reducible repeat (first | apply Kd.R_alloc | apply Kd.R_drewN | apply Kd.R_drew)); exact HO_227002.out) (Kd.R_base ho0) hb); have n2_ := Aside0.mk (Kd.R_below (by (with_reducible repeat (first | apply Kd.R_alloc | apply Kd.R_drewN | apply Kd.R_drew)); exact HO236.out) hb); have n3_ := Aside0.mk (Kd.R_lower (Kd.R_new' (Kd.R_new' ho0 (Kd.R_lt (by (with_reducible repeat (first | apply Kd.R_alloc | apply Kd.R_drewN | apply Kd.R_drew)); exact HO_212002.out))) (Kd.R_lt (by (with_reducible repeat (first | apply Kd.R_alloc | apply Kd.R_drewN | apply Kd.R_drew)); exact HO_227002.out))) (below_size (by repeat (first | (with_reducible first | exact HB.out | apply below_alloc | apply pw_below_drewN | apply below_drew1 | refine below_set ?_ GE211.out | refine below_set ?_ GE226.out) | exact HB.out)))); have n4_ := Aside0.mk (blk_below (g := gb211) (o := .cells #[.string (⟨#[]⟩ : ByteArray), .bool false, u212002, .int .i64 5, .int .i64 3, .int .i64 0, .string (⟨#[]⟩ : ByteArray), .int .i64 0, .int .i64 0] 75 (0, 0)) (by (with_reducible repeat (first | refine blk_drewN ?_ _ | refine blk_drew ?_ | refine blk_alloc ?_ _)); exact BK211.out) hb); have n5_ := Aside0.mk (blk_below (g := gb226) (o := .cells #[.string t215, .bool t216, .slice Ao99 x227002_19.length co99, .int .i64 x227003_19, .int .i64 x227004_19, .int .i64 t222, .string t223, .int .i64 t224, .int .i64 t225] 75 (0, 0)) (by (with_reducible repeat (first | refine blk_drewN ?_ _ | refine blk_drew ?_ | refine blk_alloc ?_ _)); exact BK226.out) hb); have n6_ := Aside0.mk (below_step (by repeat (first | (with_reducible first | exact HB.out | apply below_alloc | apply pw_below_drewN | apply below_drew1 | refine below_set ?_ GE211.out | refine below_set ?_ GE226.out) | exact HB.out)) hb); clear HO_212002; clear HO_227002; clear HO236; clear BK211; clear BK226; clear HB; have HO_212002 := n0_; have HO_227002 := n1_; have HO236 := n2_; have HO242 := n3_; have BK211 := n4_; have BK226 := n5_; have HB := n6_; clear n0_ n1_ n2_ n3_ n4_ n5_ n6_; (try clear hb); (try clear hb2); (try clear hk); (try clear hi); (try clear ho0)) | ((with_reducible refine gate_dst (N := 13) rfl ?_); (try (refine gate_guard (by rfl) ?_; dsimp only)); refine box_event ?hg (N := 13) ?hd (cs := #[.string (⟨#[]⟩ : ByteArray), .bool false, .slice none 0 0, .int .i64 0, .int .i64 0, .int .i64 0, .string (⟨#[]⟩ : ByteArray), .int .i64 0, .int .i64 0]) (t := 75) ?hr ?_; (case hd => rfl); (case hg => rfl); (case hr => first | (go_simp; done) | (go_simp; rfl)); intro gb250 hg w106 hbox hb; have n0_ := Aside0.mk (Kd.R_below (by (with_reducible repeat (first | apply Kd.R_alloc | apply Kd.R_drewN | apply Kd.R_drew)); exact HO_212002.out) hb); have n1_ := Aside0.mk (Kd.R_below (by (with_reducible repeat (first | apply Kd.R_alloc | apply Kd.R_drewN | apply Kd.R_drew)); exact HO_227002.out) hb); have n2_ := Aside0.mk (Kd.R_below (by (with_reducible repeat (first | apply Kd.R_alloc | apply Kd.R_drewN | apply Kd.R_drew)); exact HO236.out) hb); have n3_ := Aside0.mk (Kd.R_below (by (with_reducible repeat (first | apply Kd.R_alloc | apply Kd.R_drewN | apply Kd.R_drew)); exact HO242.out) hb); have n4_ := Aside0.mk (blk_below (g := gb211) (o := .cells #[.string (⟨#[]⟩ : ByteArray), .bool false, u212002, .int .i64 5, .int .i64 3, .int .i64 0, .string (⟨#[]⟩ : ByteArray), .int .i64 0, .int .i64 0] 75 (0, 0)) (by (with_reducible repeat (first | refine blk_drewN ?_ _ | refine blk_drew ?_ | refine blk_alloc ?_ _)); exact BK211.out) hb); have n5_ := Aside0.mk (blk_below (g := gb226) (o := .cells #[.string t215, .bool t216, .slice Ao99 x227002_19.length co99, .int .i64 x227003_19, .int .i64 x227004_19, .int .i64 t222, .string t223, .int .i64 t224, .int .i64 t225] 75 (0, 0)) (by (with_reducible repeat (first | refine blk_drewN ?_ _ | refine blk_drew ?_ | refine blk_alloc ?_ _)); exact BK226.out) hb); have n6_ := Aside0.mk (below_step (by repeat (first | (with_reducible first | exact HB.out | apply below_alloc | apply pw_below_drewN | apply below_drew1 | refine below_set ?_ GE211.out | refine below_set ?_ GE226.out) | exact HB.out)) hb); have n7_ := Aside0.mk (hbox); have n8_ := Aside0.mk ((by rw [hg]; exact (below_size (by repeat (first | (with_reducible first | exact HB.out | apply below_alloc | apply pw_below_drewN | apply below_drew1 | refine below_set ?_ GE211.out | refine below_set ?_ GE226.out) | exact HB.out))) : w.heap.size ≤ gb250)); have n9_ := Aside0.mk ((by rw [hg]; exact (below_size (by repeat (first | (with_reducible first | exact HB.out | apply below_alloc | apply pw_below_drewN | apply below_drew1 | refine below_set ?_ GE211.out | refine below_set ?_ GE226.out) | exact HB.out))) : w.heap.size ≤ gb250)); have n10_ := Aside0.mk ((by rw [hg]; exact Nat.ne_of_lt (blk_lt (g := gb211) (o := .cells #[.string (⟨#[]⟩ : ByteArray), .bool false, u212002, .int .i64 5, .int .i64 3, .int .i64 0, .string (⟨#[]⟩ : ByteArray), .int .i64 0, .int .i64 0] 75 (0, 0)) (by (with_reducible repeat (first | refine blk_drewN ?_ _ | refine blk_drew ?_ | refine blk_alloc ?_ _)); exact BK211.out)) : gb211 ≠ gb250)); have n11_ := Aside0.mk ((by rw [hg]; exact Nat.ne_of_gt (blk_lt (g := gb211) (o := .cells #[.string (⟨#[]⟩ : ByteArray), .bool false, u212002, .int .i64 5, .int .i64 3, .int .i64 0, .string (⟨#[]⟩ : ByteArray), .int .i64 0, .int .i64 0] 75 (0, 0)) (by (with_reducible repeat (first | refine blk_drewN ?_ _ | refine blk_drew ?_ | refine blk_alloc ?_ _)); exact BK211.out)) : gb250 ≠ gb211)); have n12_ := Aside0.mk ((by rw [hg]; exact Nat.ne_of_lt (blk_lt (g := gb226) (o := .cells #[.string t215, .bool t216, .slice Ao99 x227002_19.length co99, .int .i64 x227003_19, .int .i64 x227004_19, .int .i64 t222, .string t223, .int .i64 t224, .int .i64 t225] 75 (0, 0)) (by (with_reducible repeat (first | refine blk_drewN ?_ _ | refine blk_drew ?_ | refine blk_alloc ?_ _)); exact BK226.out)) : gb226 ≠ gb250)); have n13_ := Aside0.mk ((by rw [hg]; exact Nat.ne_of_gt (blk_lt (g := gb226) (o := .cells #[.string t215, .bool t216, .slice Ao99 x227002_19.length co99, .int .i64 x227003_19, .int .i64 x227004_19, .int .i64 t222, .string t223, .int .i64 t224, .int .i64 t225] 75 (0, 0)) (by (with_reducible repeat (first | refine blk_drewN ?_ _ | refine blk_drew ?_ | refine blk_alloc ?_ _)); exact BK226.out)) : gb250 ≠ gb226)); clear HO_212002; clear HO_227002; clear HO236; clear HO242; clear BK211; clear BK226; clear HB; have HO_212002 := n0_; have HO_227002 := n1_; have HO236 := n2_; have HO242 := n3_; have BK211 := n4_; have BK226 := n5_; have HB := n6_; have BK250 := n7_; have GW250 := n8_; have GE250 := n9_; have NB211_250 := n10_; have NB250_211 := n11_; have NB226_250 := n12_; have NB250_226 := n13_; clear n0_ n1_ n2_ n3_ n4_ n5_ n6_ n7_ n8_ n9_ n10_ n11_ n12_ n13_; clear hb hbox hg; have hnb107 := NB250_211.out; have hnc107 := NB211_250.out; have hnb108 := NB250_226.out; have hnc108 := NB226_250.out; have hcz109_0 : w106.cell? ⟨gb250, 0, none⟩ = some (.string (⟨#[]⟩ : ByteArray)) := (blk_cell BK250.out 0).trans rfl; have hcz109_1 : w106.cell? ⟨gb250, 1, none⟩ = some (.bool false) := (blk_cell BK250.out 1).trans rfl; have hcz109_2 : w106.cell? ⟨gb250, 2, none⟩ = some (.slice none 0 0) := (blk_cell BK250.out 2).trans rfl; have hcz109_3 : w106.cell? ⟨gb250, 3, none⟩ = some (.int .i64 0) := (blk_cell BK250.out 3).trans rfl; have hcz109_4 : w106.cell? ⟨gb250, 4, none⟩ = some (.int .i64 0) := (blk_cell BK250.out 4).trans rfl; have hcz109_5 : w106.cell? ⟨gb250, 5, none⟩ = some (.int .i64 0) := (blk_cell BK250.out 5).trans rfl; have hcz109_6 : w106.cell? ⟨gb250, 6, none⟩ = some (.string (⟨#[]⟩ : ByteArray)) := (blk_cell BK250.out 6).trans rfl; have hcz109_7 : w106.cell? ⟨gb250, 7, none⟩ = some (.int .i64 0) := (blk_cell BK250.out 7).trans rfl; have hcz109_8 : w106.cell? ⟨gb250, 8, none⟩ = some (.int .i64 0) := (blk_cell BK250.out 8).trans rfl; have hfz109_0 := blk_frozen BK250.out 0; have hfz109_1 := blk_frozen BK250.out 1; have hfz109_2 := blk_frozen BK250.out 2; have hfz109_3 := blk_frozen BK250.out 3; have hfz109_4 := blk_frozen BK250.out 4; have hfz109_5 := blk_frozen BK250.out 5; have hfz109_6 := blk_frozen BK250.out 6; have hfz109_7 := blk_frozen BK250.out 7; have hfz109_8 := blk_frozen BK250.out 8; obtain ⟨Ao110, co110, eo110⟩ := Kd.R_slice HO242.out; subst eo110) | ((with_reducible refine gate_store (t := 75) (p := 13) rfl ?_); refine store_event (t := 75) (p := 13) (v := ?vo_w111) (w1 := (((((((((w106.setCell ⟨gb250, 0, none⟩ (.string t238)).setCell ⟨gb250, 1, none⟩ (.bool t239)).setCell ⟨gb250, 2, none⟩ (.slice Ao110 t240.length co110)).setCell ⟨gb250, 3, none⟩ (.int .i64 t243)).setCell ⟨gb250, 4, none⟩ (.int .i64 t244)).setCell ⟨gb250, 5, none⟩ (.int .i64 t245)).setCell ⟨gb250, 6, none⟩ (.string t246)).setCell ⟨gb250, 7, none⟩ (.int .i64 t247)).setCell ⟨gb250, 8, none⟩ (.int .i64 t248))) ?hg ?ho ?hn ?hr ?_; (case ho => rfl); (case hg => rfl); (case hn => rfl); (case hr => first | (go_simp; done) | (go_simp; rfl)); intro w111 hw; have n0_ : Aside0 (Kd.R (Kd.int .i64) 3 w111 w.heap.size (fun k_ => some k_ ≠ (.slice Ao99 x227002_19.length co99 : Value).ownBlock ∧ some k_ ≠ (.slice Ao110 t240.length co110 : Value).ownBlock) u212002 x212002_19) := ⟨(by rw [hw]; exact (by (with_reducible repeat (first | apply Kd.R_alloc | apply Kd.R_drewN | apply Kd.R_drew)); exact Kd.R_mono (Kd.R_far (p := ⟨gb250, 8, none⟩) (Kd.R_far (p := ⟨gb250, 7, none⟩) (Kd.R_far (p := ⟨gb250, 6, none⟩) (Kd.R_far (p := ⟨gb250, 5, none⟩) (Kd.R_far (p := ⟨gb250, 4, none⟩) (Kd.R_far (p := ⟨gb250, 3, none⟩) (Kd.R_far (p := ⟨gb250, 2, none⟩) (Kd.R_far (p := ⟨gb250, 1, none⟩) (Kd.R_far (p := ⟨gb250, 0, none⟩) (Kd.R_types HO_212002.out BK250.out (by decide)) (fun _ hk => hk.2) (.string t238)) (fun _ hk => hk.2) (.bool t239)) (fun _ hk => hk.2) (.slice Ao110 t240.length co110)) (fun _ hk => hk.2) (.int .i64 t243)) (fun _ hk => hk.2) (.int .i64 t244)) (fun _ hk => hk.2) (.int .i64 t245)) (fun _ hk => hk.2) (.string t246)) (fun _ hk => hk.2) (.int .i64 t247)) (fun _ hk => hk.2) (.int .i64 t248)) (fun _ hk => ⟨hk.1.1, hk.1.2⟩)))⟩; have n1_ : Aside0 (Kd.R (Kd.int .i64) 3 w111 w.heap.size (fun k_ => some k_ ≠ (u212002 : Value).ownBlock ∧ some k_ ≠ (.slice Ao110 t240.length co110 : Value).ownBlock) (.slice Ao99 x227002_19.length co99) x227002_19) := ⟨(by rw [hw]; exact (by (with_reducible repeat (first | apply Kd.R_alloc | apply Kd.R_drewN | apply Kd.R_drew)); exact Kd.R_mono (Kd.R_far (p := ⟨gb250, 8, none⟩) (Kd.R_far (p := ⟨gb250, 7, none⟩) (Kd.R_far (p := ⟨gb250, 6, none⟩) (Kd.R_far (p := ⟨gb250, 5, none⟩) (Kd.R_far (p := ⟨gb250, 4, none⟩) (Kd.R_far (p := ⟨gb250, 3, none⟩) (Kd.R_far (p := ⟨gb250, 2, none⟩) (Kd.R_far (p := ⟨gb250, 1, none⟩) (Kd.R_far (p := ⟨gb250, 0, none⟩) (Kd.R_types HO_227002.out BK250.out (by decide)) (fun _ hk => hk.2) (.string t238)) (fun _ hk => hk.2) (.bool t239)) (fun _ hk => hk.2) (.slice Ao110 t240.length co110)) (fun _ hk => hk.2) (.int .i64 t243)) (fun _ hk => hk.2) (.int .i64 t244)) (fun _ hk => hk.2) (.int .i64 t245)) (fun _ hk => hk.2) (.string t246)) (fun _ hk => hk.2) (.int .i64 t247)) (fun _ hk => hk.2) (.int .i64 t248)) (fun _ hk => ⟨hk.1.1, hk.1.2⟩)))⟩; have n2_ : Aside0 (Kd.R Kd.string 9 w111 w.heap.size (fun _ => True) (.slice (some ad237) y234.length co104) y234) := ⟨(by rw [hw]; exact (by (with_reducible repeat (first | apply Kd.R_alloc | apply Kd.R_drewN | apply Kd.R_drew)); exact Kd.R_mono (Kd.R_far (p := ⟨gb250, 8, none⟩) (Kd.R_far (p := ⟨gb250, 7, none⟩) (Kd.R_far (p := ⟨gb250, 6, none⟩) (Kd.R_far (p := ⟨gb250, 5, none⟩) (Kd.R_far (p := ⟨gb250, 4, none⟩) (Kd.R_far (p := ⟨gb250, 3, none⟩) (Kd.R_far (p := ⟨gb250, 2, none⟩) (Kd.R_far (p := ⟨gb250, 1, none⟩) (Kd.R_far (p := ⟨gb250, 0, none⟩) (Kd.R_types HO236.out BK250.out (by decide)) (fun _ hk => hk.2) (.string t238)) (fun _ hk => hk.2) (.bool t239)) (fun _ hk => hk.2) (.slice Ao110 t240.length co110)) (fun _ hk => hk.2) (.int .i64 t243)) (fun _ hk => hk.2) (.int .i64 t244)) (fun _ hk => hk.2) (.int .i64 t245)) (fun _ hk => hk.2) (.string t246)) (fun _ hk => hk.2) (.int .i64 t247)) (fun _ hk => hk.2) (.int .i64 t248)) (fun _ hk => trivial)))⟩; have n3_ : Aside0 (Kd.R (Kd.int .i64) 3 w111 w.heap.size (fun k_ => some k_ ≠ (u212002 : Value).ownBlock ∧ some k_ ≠ (.slice Ao99 x227002_19.length co99 : Value).ownBlock) (.slice Ao110 t240.length co110) t240) := ⟨(by rw [hw]; exact (by (with_reducible repeat (first | apply Kd.R_alloc | apply Kd.R_drewN | apply Kd.R_drew)); exact Kd.R_mono (Kd.R_far (p := ⟨gb250, 8, none⟩) (Kd.R_far (p := ⟨gb250, 7, none⟩) (Kd.R_far (p := ⟨gb250, 6, none⟩) (Kd.R_far (p := ⟨gb250, 5, none⟩) (Kd.R_far (p := ⟨gb250, 4, none⟩) (Kd.R_far (p := ⟨gb250, 3, none⟩) (Kd.R_far (p := ⟨gb250, 2, none⟩) (Kd.R_far (p := ⟨gb250, 1, none⟩) (Kd.R_far (p := ⟨gb250, 0, none⟩) (Kd.R_types HO242.out BK250.out (by decide)) (fun _ hk => hk.2) (.string t238)) (fun _ hk => hk.2) (.bool t239)) (fun _ hk => hk.2) (.slice Ao110 t240.length co110)) (fun _ hk => hk.2) (.int .i64 t243)) (fun _ hk => hk.2) (.int .i64 t244)) (fun _ hk => hk.2) (.int .i64 t245)) (fun _ hk => hk.2) (.string t246)) (fun _ hk => hk.2) (.int .i64 t247)) (fun _ hk => hk.2) (.int .i64 t248)) (fun _ hk => ⟨hk.1.1.2, hk.1.2⟩)))⟩; have n4_ : Aside0 (w111.heap[gb211]? = some (.cells #[.string (⟨#[]⟩ : ByteArray), .bool false, u212002, .int .i64 5, .int .i64 3, .int .i64 0, .string (⟨#[]⟩ : ByteArray), .int .i64 0, .int .i64 0] 75 (0, 0))) := ⟨(by rw [hw]; exact (by (with_reducible repeat (first | refine blk_drewN ?_ _ | refine blk_drew ?_ | refine blk_alloc ?_ _)); refine blk_far ?_ NB211_250.out _; (with_reducible repeat (first | refine blk_drewN ?_ _ | refine blk_drew ?_ | refine blk_alloc ?_ _)); refine blk_far ?_ NB211_250.out _; (with_reducible repeat (first | refine blk_drewN ?_ _ | refine blk_drew ?_ | refine blk_alloc ?_ _)); refine blk_far ?_ NB211_250.out _; (with_reducible repeat (first | refine blk_drewN ?_ _ | refine blk_drew ?_ | refine blk_alloc ?_ _)); refine blk_far ?_ NB211_250.out _; (with_reducible repeat (first | refine blk_drewN ?_ _ | refine blk_drew ?_ | refine blk_alloc ?_ _)); refine blk_far ?_ NB211_250.out _; (with_reducible repeat (first | refine blk_drewN ?_ _ | refine blk_drew ?_ | refine blk_alloc ?_ _)); refine blk_far ?_ NB211_250.out _; (with_reducible repeat (first | refine blk_drewN ?_ _ | refine blk_drew ?_ | refine blk_alloc ?_ _)); refine blk_far ?_ NB211_250.out _; (with_reducible repeat (first | refine blk_drewN ?_ _ | refine blk_drew ?_ | refine blk_alloc ?_ _)); refine blk_far ?_ NB211_250.out _; (with_reducible repeat (first | refine blk_drewN ?_ _ | refine blk_drew ?_ | refine blk_alloc ?_ _)); refine blk_far ?_ NB211_250.out _; (with_reducible repeat (first | refine blk_drewN ?_ _ | refine blk_drew ?_ | refine blk_alloc ?_ _)); exact BK211.out))⟩; have n5_ : Aside0 (w111.heap[gb226]? = some (.cells #[.string t215, .bool t216, .slice Ao99 x227002_19.length co99, .int .i64 x227003_19, .int .i64 x227004_19, .int .i64 t222, .string t223, .int .i64 t224, .int .i64 t225] 75 (0, 0))) := ⟨(by rw [hw]; exact (by (with_reducible repeat (first | refine blk_drewN ?_ _ | refine blk_drew ?_ | refine blk_alloc ?_ _)); refine blk_far ?_ NB226_250.out _; (with_reducible repeat (first | refine blk_drewN ?_ _ | refine blk_drew ?_ | refine blk_alloc ?_ _)); refine blk_far ?_ NB226_250.out _; (with_reducible repeat (first | refine blk_drewN ?_ _ | refine blk_drew ?_ | refine blk_alloc ?_ _)); refine blk_far ?_ NB226_250.out _; (with_reducible repeat (first | refine blk_drewN ?_ _ | refine blk_drew ?_ | refine blk_alloc ?_ _)); refine blk_far ?_ NB226_250.out _; (with_reducible repeat (first | refine blk_drewN ?_ _ | refine blk_drew ?_ | refine blk_alloc ?_ _)); refine blk_far ?_ NB226_250.out _; (with_reducible repeat (first | refine blk_drewN ?_ _ | refine blk_drew ?_ | refine blk_alloc ?_ _)); refine blk_far ?_ NB226_250.out _; (with_reducible repeat (first | refine blk_drewN ?_ _ | refine blk_drew ?_ | refine blk_alloc ?_ _)); refine blk_far ?_ NB226_250.out _; (with_reducible repeat (first | refine blk_drewN ?_ _ | refine blk_drew ?_ | refine blk_alloc ?_ _)); refine blk_far ?_ NB226_250.out _; (with_reducible repeat (first | refine blk_drewN ?_ _ | refine blk_drew ?_ | refine blk_alloc ?_ _)); refine blk_far ?_ NB226_250.out _; (with_reducible repeat (first | refine blk_drewN ?_ _ | refine blk_drew ?_ | refine blk_alloc ?_ _)); exact BK226.out))⟩; have n6_ : Aside0 (w111.heap[gb250]? = some (.cells #[.string t238, .bool t239, .slice Ao110 t240.length co110, .int .i64 t243, .int .i64 t244, .int .i64 t245, .string t246, .int .i64 t247, .int .i64 t248] 75 (0, 0))) := ⟨(by rw [hw]; exact (by (with_reducible repeat (first | refine blk_drewN ?_ _ | refine blk_drew ?_ | refine blk_alloc ?_ _)); refine blk_put (cs := #[.string t238, .bool t239, .slice Ao110 t240.length co110, .int .i64 t243, .int .i64 t244, .int .i64 t245, .string t246, .int .i64 t247, .int .i64 0]) ?_ 8 _ rfl; (with_reducible repeat (first | refine blk_drewN ?_ _ | refine blk_drew ?_ | refine blk_alloc ?_ _)); refine blk_put (cs := #[.string t238, .bool t239, .slice Ao110 t240.length co110, .int .i64 t243, .int .i64 t244, .int .i64 t245, .string t246, .int .i64 0, .int .i64 0]) ?_ 7 _ rfl; (with_reducible repeat (first | refine blk_drewN ?_ _ | refine blk_drew ?_ | refine blk_alloc ?_ _)); refine blk_put (cs := #[.string t238, .bool t239, .slice Ao110 t240.length co110, .int .i64 t243, .int .i64 t244, .int .i64 t245, .string (⟨#[]⟩ : ByteArray), .int .i64 0, .int .i64 0]) ?_ 6 _ rfl; (with_reducible repeat (first | refine blk_drewN ?_ _ | refine blk_drew ?_ | refine blk_alloc ?_ _)); refine blk_put (cs := #[.string t238, .bool t239, .slice Ao110 t240.length co110, .int .i64 t243, .int .i64 t244, .int .i64 0, .string (⟨#[]⟩ : ByteArray), .int .i64 0, .int .i64 0]) ?_ 5 _ rfl; (with_reducible repeat (first | refine blk_drewN ?_ _ | refine blk_drew ?_ | refine blk_alloc ?_ _)); refine blk_put (cs := #[.string t238, .bool t239, .slice Ao110 t240.length co110, .int .i64 t243, .int .i64 0, .int .i64 0, .string (⟨#[]⟩ : ByteArray), .int .i64 0, .int .i64 0]) ?_ 4 _ rfl; (with_reducible repeat (first | refine blk_drewN ?_ _ | refine blk_drew ?_ | refine blk_alloc ?_ _)); refine blk_put (cs := #[.string t238, .bool t239, .slice Ao110 t240.length co110, .int .i64 0, .int .i64 0, .int .i64 0, .string (⟨#[]⟩ : ByteArray), .int .i64 0, .int .i64 0]) ?_ 3 _ rfl; (with_reducible repeat (first | refine blk_drewN ?_ _ | refine blk_drew ?_ | refine blk_alloc ?_ _)); refine blk_put (cs := #[.string t238, .bool t239, .slice none 0 0, .int .i64 0, .int .i64 0, .int .i64 0, .string (⟨#[]⟩ : ByteArray), .int .i64 0, .int .i64 0]) ?_ 2 _ rfl; (with_reducible repeat (first | refine blk_drewN ?_ _ | refine blk_drew ?_ | refine blk_alloc ?_ _)); refine blk_put (cs := #[.string t238, .bool false, .slice none 0 0, .int .i64 0, .int .i64 0, .int .i64 0, .string (⟨#[]⟩ : ByteArray), .int .i64 0, .int .i64 0]) ?_ 1 _ rfl; (with_reducible repeat (first | refine blk_drewN ?_ _ | refine blk_drew ?_ | refine blk_alloc ?_ _)); refine blk_put (cs := #[.string (⟨#[]⟩ : ByteArray), .bool false, .slice none 0 0, .int .i64 0, .int .i64 0, .int .i64 0, .string (⟨#[]⟩ : ByteArray), .int .i64 0, .int .i64 0]) ?_ 0 _ rfl; (with_reducible repeat (first | refine blk_drewN ?_ _ | refine blk_drew ?_ | refine blk_alloc ?_ _)); exact BK250.out))⟩; have n7_ : Aside0 (Below w.heap.size w w111) := ⟨(by rw [hw]; exact (by repeat (first | (with_reducible first | exact HB.out | apply below_alloc | apply pw_below_drewN | apply below_drew1 | refine below_set ?_ GE211.out | refine below_set ?_ GE226.out | refine below_set ?_ GE250.out) | exact HB.out)))⟩; clear hw; clear HO_212002; clear HO_227002; clear HO236; clear HO242; clear BK211; clear BK226; clear BK250; clear HB; have HO_212002 := n0_; have HO_227002 := n1_; have HO236 := n2_; have HO242 := n3_; have BK211 := n4_; have BK226 := n5_; have BK250 := n6_; have HB := n7_; clear n0_ n1_ n2_ n3_ n4_ n5_ n6_ n7_) | (go_at_call 34; (with_reducible refine (portagelaw0_Num.calls t233 t251 _ A92.out).mono ?_); rintro e w' ⟨rfl, ⟨nd, rfl⟩⟩; have hcz112_0 : w111.cell? ⟨gb250, 0, none⟩ = some (.string t238) := (blk_cell BK250.out 0).trans rfl; have hcz112_1 : w111.cell? ⟨gb250, 1, none⟩ = some (.bool t239) := (blk_cell BK250.out 1).trans rfl; have hcz112_2 : w111.cell? ⟨gb250, 2, none⟩ = some (.slice Ao110 t240.length co110) := (blk_cell BK250.out 2).trans rfl; have hcz112_3 : w111.cell? ⟨gb250, 3, none⟩ = some (.int .i64 t243) := (blk_cell BK250.out 3).trans rfl; have hcz112_4 : w111.cell? ⟨gb250, 4, none⟩ = some (.int .i64 t244) := (blk_cell BK250.out 4).trans rfl; have hcz112_5 : w111.cell? ⟨gb250, 5, none⟩ = some (.int .i64 t245) := (blk_cell BK250.out 5).trans rfl; have hcz112_6 : w111.cell? ⟨gb250, 6, none⟩ = some (.string t246) := (blk_cell BK250.out 6).trans rfl; have hcz112_7 : w111.cell? ⟨gb250, 7, none⟩ = some (.int .i64 t247) := (blk_cell BK250.out 7).trans rfl; have hcz112_8 : w111.cell? ⟨gb250, 8, none⟩ = some (.int .i64 t248) := (blk_cell BK250.out 8).trans rfl; have hfz112_0 := blk_frozen BK250.out 0; have hfz112_1 := blk_frozen BK250.out 1; have hfz112_2 := blk_frozen BK250.out 2; have hfz112_3 := blk_frozen BK250.out 3; have hfz112_4 := blk_frozen BK250.out 4; have hfz112_5 := blk_frozen BK250.out 5; have hfz112_6 := blk_frozen BK250.out 6; have hfz112_7 := blk_frozen BK250.out 7; have hfz112_8 := blk_frozen BK250.out 8) | (go_at_call 65; (refine (portagelaw0_SameEntry.calls kj19 t238 t239 _ _ t240 t243 t244 t245 t246 t247 t248 (⟨#[]⟩ : ByteArray) false _ _ ([] : List Int) 0 0 0 (⟨#[]⟩ : ByteArray) 0 0 true _ ?side1 ?side2 ?side3 ?side4 A94.out).mono ?_); (case side1 => repeat (first | exact (Kd.R_reads' HO242.out).2.2 | (with_reducible refine Kd.C_alloc ?_ _) | (with_reducible refine Kd.C_drewN ?_ _) | (with_reducible refine Kd.C_drew ?_))); (case side2 => exact (Kd.R_reads' HO242.out).2.1); (case side3 => exact Kd.C_nil _ _); (case side4 => exact Nat.le_refl _); rintro e w113 ⟨rfl, hb⟩; have n0_ := Aside0.mk (Kd.R_below (by (with_reducible repeat (first | apply Kd.R_alloc | apply Kd.R_drewN | apply Kd.R_drew)); exact HO_212002.out) hb); have n1_ := Aside0.mk (Kd.R_below (by (with_reducible repeat (first | apply Kd.R_alloc | apply Kd.R_drewN | apply Kd.R_drew)); exact HO_227002.out) hb); have n2_ := Aside0.mk (Kd.R_below (by (with_reducible repeat (first | apply Kd.R_alloc | apply Kd.R_drewN | apply Kd.R_drew)); exact HO236.out) hb); have n3_ := Aside0.mk (Kd.R_below (by (with_reducible repeat (first | apply Kd.R_alloc | apply Kd.R_drewN | apply Kd.R_drew)); exact HO242.out) hb); have n4_ := Aside0.mk (blk_below (g := gb211) (o := .cells #[.string (⟨#[]⟩ : ByteArray), .bool false, u212002, .int .i64 5, .int .i64 3, .int .i64 0, .string (⟨#[]⟩ : ByteArray), .int .i64 0, .int .i64 0] 75 (0, 0)) (by (with_reducible repeat (first | refine blk_drewN ?_ _ | refine blk_drew ?_ | refine blk_alloc ?_ _)); exact BK211.out) hb); have n5_ := Aside0.mk (blk_below (g := gb226) (o := .cells #[.string t215, .bool t216, .slice Ao99 x227002_19.length co99, .int .i64 x227003_19, .int .i64 x227004_19, .int .i64 t222, .string t223, .int .i64 t224, .int .i64 t225] 75 (0, 0)) (by (with_reducible repeat (first | refine blk_drewN ?_ _ | refine blk_drew ?_ | refine blk_alloc ?_ _)); exact BK226.out) hb); have n6_ := Aside0.mk (blk_below (g := gb250) (o := .cells #[.string t238, .bool t239, .slice Ao110 t240.length co110, .int .i64 t243, .int .i64 t244, .int .i64 t245, .string t246, .int .i64 t247, .int .i64 t248] 75 (0, 0)) (by (with_reducible repeat (first | refine blk_drewN ?_ _ | refine blk_drew ?_ | refine blk_alloc ?_ _)); exact BK250.out) hb); have n7_ := Aside0.mk (below_step (by repeat (first | (with_reducible first | exact HB.out | apply below_alloc | apply pw_below_drewN | apply below_drew1 | refine below_set ?_ GE211.out | refine below_set ?_ GE226.out | refine below_set ?_ GE250.out) | exact HB.out)) hb); clear HO_212002; clear HO_227002; clear HO236; clear HO242; clear BK211; clear BK226; clear BK250; clear HB; have HO_212002 := n0_; have HO_227002 := n1_; have HO236 := n2_; have HO242 := n3_; have BK211 := n4_; have BK226 := n5_; have BK250 := n6_; have HB := n7_; clear n0_ n1_ n2_ n3_ n4_ n5_ n6_ n7_; (try clear hb); (try clear hb2); (try clear hk); (try clear hi)) | (go_at_call 34; (with_reducible refine (portagelaw0_Num.calls t249 t253 _ A96.out).mono ?_); rintro e w' ⟨rfl, ⟨nd, rfl⟩⟩))
                                                                go_ret
                                                                exact ⟨by first | rfl | (simp [errW_none, errW_some] <;> rfl) | (simp only [← hji87]; first | rfl | (simp [errW_none, errW_some] <;> rfl)) | (simp [*, errW_none, errW_some] <;> rfl), by repeat (first | (with_reducible first | exact HB.out | apply below_alloc | apply pw_below_drewN | apply below_drew1 | refine below_set ?_ GE211.out | refine below_set ?_ GE226.out | refine below_set ?_ GE250.out) | exact HB.out)⟩
                                                              · replace c95 := Bool.eq_false_iff.mpr c95
                                                                subst c95
                                                                have H1 : (none) = some r := by rw [if_neg (show ¬ (false = true) by decide)] at H; exact H
                                                                clear H
                                                                have H := H1
                                                                clear H1
                                                                exact absurd H (by simp)
                                                            · rw [if_neg c93] at H
                                                              exact absurd H (by simp)
                                                          · rw [if_neg c91] at H
                                                            exact absurd H (by simp)
                                                        · rw [if_neg c89] at H
                                                          exact absurd H (by simp)
                                                      · rw [if_neg c88] at H
                                                        exact absurd H (by simp)
                                                    · rw [if_neg c86] at H
                                                      exact absurd H (by simp)
                                                  · rw [if_neg c85] at H
                                                    exact absurd H (by simp)
                                                · rw [if_neg c84] at H
                                                  exact absurd H (by simp)
                                              · rw [if_neg c83] at H
                                                exact absurd H (by simp)
                                            · rw [if_neg c82] at H
                                              exact absurd H (by simp)
                                          · rw [if_neg c81] at H
                                            exact absurd H (by simp)
                                        · rw [if_neg c79] at H
                                          exact absurd H (by simp)
                                      · rw [if_neg c78] at H
                                        exact absurd H (by simp)
                                    · rw [if_neg c77] at H
                                      exact absurd H (by simp)
                                  · rw [if_neg c76] at H
                                    exact absurd H (by simp)
                                · rw [if_neg c73] at H
                                  exact absurd H (by simp)
                              · rw [if_neg c72] at H
                                exact absurd H (by simp)
                            · rw [if_neg c71] at H
                              exact absurd H (by simp)
                          · rw [if_neg c70] at H
                            exact absurd H (by simp)
                        · rw [if_neg c69] at H
                          exact absurd H (by simp)
                      · rw [if_neg c68] at H
                        exact absurd H (by simp)
                    · rw [if_neg c67] at H
                      exact absurd H (by simp)
                  · rw [if_neg c66] at H
                    exact absurd H (by simp)
                · rw [if_neg c65] at H
                  exact absurd H (by simp)
              · rw [if_neg c64] at H
                exact absurd H (by simp)
  · replace c4 := Bool.eq_false_iff.mpr c4
    subst c4
    have H1 : (none) = some r := by rw [if_neg (show ¬ (false = true) by decide)] at H; exact H
    clear H
    have H := H1
    clear H1
    exact absurd H (by simp)

/-- THE ONE PURE STATEMENT of portagelaw12_ExtraForms: yours. -/
def portagelaw12_ExtraForms.Pure : Prop := ∀ (a0 : Int) (a1 : Int), (Lit.int .i64 a0).wf = true → (Lit.int .i64 a1).wf = true → ∃ k, portagelaw12_ExtraForms.f k a0 a1 = some true
theorem portagelaw12_ExtraForms.walk (P : portagelaw12_ExtraForms.Pure) (a0 : Int) (a1 : Int) (w : World) (w0 : (Lit.int .i64 a0).wf = true) (w1 : (Lit.int .i64 a1).wf = true) :
    Calls Try.prog 20 #[.int .i64 a0, .int .i64 a1] w fun e w' => e = .returned (.bool true) ∧ Below w.heap.size w w' := by
  obtain ⟨k, h⟩ := P a0 a1 w0 w1
  refine (portagelaw12_ExtraForms.calls k a0 a1 true w h).mono ?_
  rintro e w' ⟨rfl, hd⟩
  exact ⟨rfl, hd⟩

end Go.Proofs.Ytnjbbfcknijcnaa.F
