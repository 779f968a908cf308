-- Written by a program of this session out of the translation (a changed copy of the kit's printer).
import Derived.Test.YtbifignggnfodaaT0
import Derived.Test.YtbifignggnfodaaT1
import Derived.Test.YtbifignggnfodaaT2
import Derived.Test.YtbifignggnfodaaT4
namespace Go.Proofs.Ytbifignggnfodaa.T
open Go.RowKit Go.Proofs.YtbifignggnfodaaW.PrintWords Go.Proofs.YtbifignggnfodaaW.PrintLast Go.Proofs.YtbifignggnfodaaW.PrintMore
attribute [local go_sem] max2_int min2_int max_two min_two max_three min_three max_four min_four   -- for this text's walks alone
set_option linter.unusedVariables false
set_option linter.unusedSimpArgs false

/-! ### portagelaw6_TableSteps: function 17 -/
def portagelaw6_TableSteps.j0 : Nat → Int → Int → Int → Int → Int → Int → Int → Int → Int → Int → Int → Int → Bool → Option (Bool)
  | 0, _, _, _, _, _, _, _, _, _, _, _, _, _ => none
  | k + 1, x4, x5, x7, x11, x12, x14, x17, x18, x19, x20, x21, x22, x103 => if x103 = true then (none) else (if 0 ≤ x5 then (if x7 = (wrap64 (x4 + (shl .i64 1 x5))) then (if 0 ≤ x12 then (if x14 = (wrap64 (x11 + (shl .i64 1 x12))) then (if x17 = 258 then (if x18 = 0 then ((portagelaw0_Num.f x19).bind fun t302 => (if t302 = 0 then (if 0 ≤ x21 then (if (wrap64 (x20 + (shl .i64 1 x21))) = 32769 then ((portagelaw0_Num.f x22).bind fun t303 => (some (t303 == 0))) else (none)) else (none)) else (none))) else (none)) else (none)) else (none)) else (none)) else (none)) else (none))
def portagelaw6_TableSteps.f (k : Nat) (a0 : Int) : Option (Bool) := (portagelaw6_awake.f k).bind fun t279 => (if t279 = true then ((table_LengthOf.f k (wrap64 (257 + (wrap64 (Int.tmod (IntKind.u64.wrap (a0)) 27))))).bind fun bt280 => ((table_LengthOf.f k (wrap64 ((wrap64 (257 + (wrap64 (Int.tmod (IntKind.u64.wrap (a0)) 27)))) + 1))).bind fun bt283 => ((table_DistOf.f k (wrap64 (Int.tmod (IntKind.u64.wrap (a0)) 29))).bind fun bt286 => ((table_DistOf.f k (wrap64 ((wrap64 (Int.tmod (IntKind.u64.wrap (a0)) 29)) + 1))).bind fun bt289 => ((table_LengthOf.f k 285).bind fun bt292 => ((table_DistOf.f k 29).bind fun bt295 => ((portagelaw0_Num.f bt280.2.2).bind fun t298 => (if t298 = 0 then ((portagelaw0_Num.f bt283.2.2).bind fun t299 => (if t299 = 0 then ((portagelaw0_Num.f bt286.2.2).bind fun t300 => (if t300 = 0 then ((portagelaw0_Num.f bt289.2.2).bind fun t301 => (if t301 = 0 then (if bt280.2.1 < 0 then (portagelaw6_TableSteps.j0 k bt280.1 bt280.2.1 bt283.1 bt286.1 bt286.2.1 bt289.1 bt292.1 bt292.2.1 bt292.2.2 bt295.1 bt295.2.1 bt295.2.2 true) else (if bt280.2.1 > 5 then (portagelaw6_TableSteps.j0 k bt280.1 bt280.2.1 bt283.1 bt286.1 bt286.2.1 bt289.1 bt292.1 bt292.2.1 bt292.2.2 bt295.1 bt295.2.1 bt295.2.2 true) else (if bt286.2.1 < 0 then (portagelaw6_TableSteps.j0 k bt280.1 bt280.2.1 bt283.1 bt286.1 bt286.2.1 bt289.1 bt292.1 bt292.2.1 bt292.2.2 bt295.1 bt295.2.1 bt295.2.2 true) else (portagelaw6_TableSteps.j0 k bt280.1 bt280.2.1 bt283.1 bt286.1 bt286.2.1 bt289.1 bt292.1 bt292.2.1 bt292.2.2 bt295.1 bt295.2.1 bt295.2.2 (decide (bt286.2.1 > 13)))))) else (portagelaw6_TableSteps.j0 k bt280.1 bt280.2.1 bt283.1 bt286.1 bt286.2.1 bt289.1 bt292.1 bt292.2.1 bt292.2.2 bt295.1 bt295.2.1 bt295.2.2 true))) else (portagelaw6_TableSteps.j0 k bt280.1 bt280.2.1 bt283.1 bt286.1 bt286.2.1 bt289.1 bt292.1 bt292.2.1 bt292.2.2 bt295.1 bt295.2.1 bt295.2.2 true))) else (portagelaw6_TableSteps.j0 k bt280.1 bt280.2.1 bt283.1 bt286.1 bt286.2.1 bt289.1 bt292.1 bt292.2.1 bt292.2.2 bt295.1 bt295.2.1 bt295.2.2 true))) else (portagelaw6_TableSteps.j0 k bt280.1 bt280.2.1 bt283.1 bt286.1 bt286.2.1 bt289.1 bt292.1 bt292.2.1 bt292.2.2 bt295.1 bt295.2.1 bt295.2.2 true))))))))) else (none))
theorem portagelaw6_TableSteps.mono_l : ∀ k, (∀ y0 y1 y2 y3 y4 y5 y6 y7 y8 y9 y10 y11 y12, LeO (portagelaw6_TableSteps.j0 k y0 y1 y2 y3 y4 y5 y6 y7 y8 y9 y10 y11 y12) (portagelaw6_TableSteps.j0 (k + 1) y0 y1 y2 y3 y4 y5 y6 y7 y8 y9 y10 y11 y12))
  | 0 => fun _ _ _ _ _ _ _ _ _ _ _ _ _ r h => by simp [portagelaw6_TableSteps.j0] at h
  | k + 1 => by
    have ih0 := portagelaw6_TableSteps.mono_l k
    · intro y0 y1 y2 y3 y4 y5 y6 y7 y8 y9 y10 y11 y12
      unfold portagelaw6_TableSteps.j0
      repeat' first
      | (with_reducible exact ih0 _ _ _ _ _ _ _ _ _ _ _ _ _)
      | (with_reducible exact portagelaw6_awake.mono _)
      | (with_reducible exact table_DistOf.mono _ _)
      | (with_reducible exact table_LengthOf.mono _ _)
      | (with_reducible exact LeO.refl _)
      | (with_reducible exact LeO.none _)
      | (with_reducible refine LeO.ite ?_ ?_)
      | (with_reducible refine LeO.bind ?_ (fun _ => ?_))
      | exact ih0 _ _ _ _ _ _ _ _ _ _ _ _ _
      | exact portagelaw6_awake.mono _
      | exact table_DistOf.mono _ _
      | exact table_LengthOf.mono _ _
      | exact LeO.none _
      | refine LeO.ite ?_ ?_
      | refine LeO.bind ?_ (fun _ => ?_)
theorem portagelaw6_TableSteps.mono : ∀ a0 k, LeO (portagelaw6_TableSteps.f k a0) (portagelaw6_TableSteps.f (k + 1) a0) := by
  intro a0 k
  have ih0 := portagelaw6_TableSteps.mono_l k
  unfold portagelaw6_TableSteps.f
  repeat' first
      | (with_reducible exact ih0 _ _ _ _ _ _ _ _ _ _ _ _ _)
      | (with_reducible exact portagelaw6_awake.mono _)
      | (with_reducible exact table_DistOf.mono _ _)
      | (with_reducible exact table_LengthOf.mono _ _)
      | (with_reducible exact LeO.refl _)
      | (with_reducible exact LeO.none _)
      | (with_reducible refine LeO.ite ?_ ?_)
      | (with_reducible refine LeO.bind ?_ (fun _ => ?_))
      | exact ih0 _ _ _ _ _ _ _ _ _ _ _ _ _
      | exact portagelaw6_awake.mono _
      | exact table_DistOf.mono _ _
      | exact table_LengthOf.mono _ _
      | exact LeO.none _
      | refine LeO.ite ?_ ?_
      | refine LeO.bind ?_ (fun _ => ?_)
set_option maxHeartbeats 8000000 in
set_option maxRecDepth 100000 in
theorem portagelaw6_TableSteps.calls (k : Nat) (a0 : Int) (r : Bool) (w : World) (h : portagelaw6_TableSteps.f k a0 = some r) :
    Calls Try.prog 17 #[.int .i64 a0] w fun e w' => e = .returned (.bool r) ∧ Below w.heap.size w w' := by
  have HB := Aside0.mk (Below.refl w.heap.size w)
  have H : ((portagelaw6_awake.f k).bind fun t279 => (if t279 = true then ((table_LengthOf.f k (wrap64 (257 + (wrap64 (Int.tmod (IntKind.u64.wrap (a0)) 27))))).bind fun bt280 => ((table_LengthOf.f k (wrap64 ((wrap64 (257 + (wrap64 (Int.tmod (IntKind.u64.wrap (a0)) 27)))) + 1))).bind fun bt283 => ((table_DistOf.f k (wrap64 (Int.tmod (IntKind.u64.wrap (a0)) 29))).bind fun bt286 => ((table_DistOf.f k (wrap64 ((wrap64 (Int.tmod (IntKind.u64.wrap (a0)) 29)) + 1))).bind fun bt289 => ((table_LengthOf.f k 285).bind fun bt292 => ((table_DistOf.f k 29).bind fun bt295 => ((portagelaw0_Num.f bt280.2.2).bind fun t298 => (if t298 = 0 then ((portagelaw0_Num.f bt283.2.2).bind fun t299 => (if t299 = 0 then ((portagelaw0_Num.f bt286.2.2).bind fun t300 => (if t300 = 0 then ((portagelaw0_Num.f bt289.2.2).bind fun t301 => (if t301 = 0 then (if bt280.2.1 < 0 then (portagelaw6_TableSteps.j0 k bt280.1 bt280.2.1 bt283.1 bt286.1 bt286.2.1 bt289.1 bt292.1 bt292.2.1 bt292.2.2 bt295.1 bt295.2.1 bt295.2.2 true) else (if bt280.2.1 > 5 then (portagelaw6_TableSteps.j0 k bt280.1 bt280.2.1 bt283.1 bt286.1 bt286.2.1 bt289.1 bt292.1 bt292.2.1 bt292.2.2 bt295.1 bt295.2.1 bt295.2.2 true) else (if bt286.2.1 < 0 then (portagelaw6_TableSteps.j0 k bt280.1 bt280.2.1 bt283.1 bt286.1 bt286.2.1 bt289.1 bt292.1 bt292.2.1 bt292.2.2 bt295.1 bt295.2.1 bt295.2.2 true) else (portagelaw6_TableSteps.j0 k bt280.1 bt280.2.1 bt283.1 bt286.1 bt286.2.1 bt289.1 bt292.1 bt292.2.1 bt292.2.2 bt295.1 bt295.2.1 bt295.2.2 (decide (bt286.2.1 > 13)))))) else (portagelaw6_TableSteps.j0 k bt280.1 bt280.2.1 bt283.1 bt286.1 bt286.2.1 bt289.1 bt292.1 bt292.2.1 bt292.2.2 bt295.1 bt295.2.1 bt295.2.2 true))) else (portagelaw6_TableSteps.j0 k bt280.1 bt280.2.1 bt283.1 bt286.1 bt286.2.1 bt289.1 bt292.1 bt292.2.1 bt292.2.2 bt295.1 bt295.2.1 bt295.2.2 true))) else (portagelaw6_TableSteps.j0 k bt280.1 bt280.2.1 bt283.1 bt286.1 bt286.2.1 bt289.1 bt292.1 bt292.2.1 bt292.2.2 bt295.1 bt295.2.1 bt295.2.2 true))) else (portagelaw6_TableSteps.j0 k bt280.1 bt280.2.1 bt283.1 bt286.1 bt286.2.1 bt289.1 bt292.1 bt292.2.1 bt292.2.2 bt295.1 bt295.2.1 bt295.2.2 true))))))))) else (none))) = some r := h
  clear h
  replace H := Option.bind_eq_some_iff.mp H
  obtain ⟨t279, A20, H⟩ := H
  replace H : (if t279 = true then ((table_LengthOf.f k (wrap64 (257 + (wrap64 (Int.tmod (IntKind.u64.wrap (a0)) 27))))).bind fun bt280 => ((table_LengthOf.f k (wrap64 ((wrap64 (257 + (wrap64 (Int.tmod (IntKind.u64.wrap (a0)) 27)))) + 1))).bind fun bt283 => ((table_DistOf.f k (wrap64 (Int.tmod (IntKind.u64.wrap (a0)) 29))).bind fun bt286 => ((table_DistOf.f k (wrap64 ((wrap64 (Int.tmod (IntKind.u64.wrap (a0)) 29)) + 1))).bind fun bt289 => ((table_LengthOf.f k 285).bind fun bt292 => ((table_DistOf.f k 29).bind fun bt295 => ((portagelaw0_Num.f bt280.2.2).bind fun t298 => (if t298 = 0 then ((portagelaw0_Num.f bt283.2.2).bind fun t299 => (if t299 = 0 then ((portagelaw0_Num.f bt286.2.2).bind fun t300 => (if t300 = 0 then ((portagelaw0_Num.f bt289.2.2).bind fun t301 => (if t301 = 0 then (if bt280.2.1 < 0 then (portagelaw6_TableSteps.j0 k bt280.1 bt280.2.1 bt283.1 bt286.1 bt286.2.1 bt289.1 bt292.1 bt292.2.1 bt292.2.2 bt295.1 bt295.2.1 bt295.2.2 true) else (if bt280.2.1 > 5 then (portagelaw6_TableSteps.j0 k bt280.1 bt280.2.1 bt283.1 bt286.1 bt286.2.1 bt289.1 bt292.1 bt292.2.1 bt292.2.2 bt295.1 bt295.2.1 bt295.2.2 true) else (if bt286.2.1 < 0 then (portagelaw6_TableSteps.j0 k bt280.1 bt280.2.1 bt283.1 bt286.1 bt286.2.1 bt289.1 bt292.1 bt292.2.1 bt292.2.2 bt295.1 bt295.2.1 bt295.2.2 true) else (portagelaw6_TableSteps.j0 k bt280.1 bt280.2.1 bt283.1 bt286.1 bt286.2.1 bt289.1 bt292.1 bt292.2.1 bt292.2.2 bt295.1 bt295.2.1 bt295.2.2 (decide (bt286.2.1 > 13)))))) else (portagelaw6_TableSteps.j0 k bt280.1 bt280.2.1 bt283.1 bt286.1 bt286.2.1 bt289.1 bt292.1 bt292.2.1 bt292.2.2 bt295.1 bt295.2.1 bt295.2.2 true))) else (portagelaw6_TableSteps.j0 k bt280.1 bt280.2.1 bt283.1 bt286.1 bt286.2.1 bt289.1 bt292.1 bt292.2.1 bt292.2.2 bt295.1 bt295.2.1 bt295.2.2 true))) else (portagelaw6_TableSteps.j0 k bt280.1 bt280.2.1 bt283.1 bt286.1 bt286.2.1 bt289.1 bt292.1 bt292.2.1 bt292.2.2 bt295.1 bt295.2.1 bt295.2.2 true))) else (portagelaw6_TableSteps.j0 k bt280.1 bt280.2.1 bt283.1 bt286.1 bt286.2.1 bt289.1 bt292.1 bt292.2.1 bt292.2.2 bt295.1 bt295.2.1 bt295.2.2 true))))))))) else (none)) = some r := H
  have A2 := Aside0.mk A20
  clear A20
  by_cases c3 : t279 = true
  · subst c3
    have H1 : ((table_LengthOf.f k (wrap64 (257 + (wrap64 (Int.tmod (IntKind.u64.wrap (a0)) 27))))).bind fun bt280 => ((table_LengthOf.f k (wrap64 ((wrap64 (257 + (wrap64 (Int.tmod (IntKind.u64.wrap (a0)) 27)))) + 1))).bind fun bt283 => ((table_DistOf.f k (wrap64 (Int.tmod (IntKind.u64.wrap (a0)) 29))).bind fun bt286 => ((table_DistOf.f k (wrap64 ((wrap64 (Int.tmod (IntKind.u64.wrap (a0)) 29)) + 1))).bind fun bt289 => ((table_LengthOf.f k 285).bind fun bt292 => ((table_DistOf.f k 29).bind fun bt295 => ((portagelaw0_Num.f bt280.2.2).bind fun t298 => (if t298 = 0 then ((portagelaw0_Num.f bt283.2.2).bind fun t299 => (if t299 = 0 then ((portagelaw0_Num.f bt286.2.2).bind fun t300 => (if t300 = 0 then ((portagelaw0_Num.f bt289.2.2).bind fun t301 => (if t301 = 0 then (if bt280.2.1 < 0 then (portagelaw6_TableSteps.j0 k bt280.1 bt280.2.1 bt283.1 bt286.1 bt286.2.1 bt289.1 bt292.1 bt292.2.1 bt292.2.2 bt295.1 bt295.2.1 bt295.2.2 true) else (if bt280.2.1 > 5 then (portagelaw6_TableSteps.j0 k bt280.1 bt280.2.1 bt283.1 bt286.1 bt286.2.1 bt289.1 bt292.1 bt292.2.1 bt292.2.2 bt295.1 bt295.2.1 bt295.2.2 true) else (if bt286.2.1 < 0 then (portagelaw6_TableSteps.j0 k bt280.1 bt280.2.1 bt283.1 bt286.1 bt286.2.1 bt289.1 bt292.1 bt292.2.1 bt292.2.2 bt295.1 bt295.2.1 bt295.2.2 true) else (portagelaw6_TableSteps.j0 k bt280.1 bt280.2.1 bt283.1 bt286.1 bt286.2.1 bt289.1 bt292.1 bt292.2.1 bt292.2.2 bt295.1 bt295.2.1 bt295.2.2 (decide (bt286.2.1 > 13)))))) else (portagelaw6_TableSteps.j0 k bt280.1 bt280.2.1 bt283.1 bt286.1 bt286.2.1 bt289.1 bt292.1 bt292.2.1 bt292.2.2 bt295.1 bt295.2.1 bt295.2.2 true))) else (portagelaw6_TableSteps.j0 k bt280.1 bt280.2.1 bt283.1 bt286.1 bt286.2.1 bt289.1 bt292.1 bt292.2.1 bt292.2.2 bt295.1 bt295.2.1 bt295.2.2 true))) else (portagelaw6_TableSteps.j0 k bt280.1 bt280.2.1 bt283.1 bt286.1 bt286.2.1 bt289.1 bt292.1 bt292.2.1 bt292.2.2 bt295.1 bt295.2.1 bt295.2.2 true))) else (portagelaw6_TableSteps.j0 k bt280.1 bt280.2.1 bt283.1 bt286.1 bt286.2.1 bt289.1 bt292.1 bt292.2.1 bt292.2.2 bt295.1 bt295.2.1 bt295.2.2 true))))))))) = some r := by rw [if_pos rfl] at H; exact H
    clear H
    have H := H1
    clear H1
    replace H := Option.bind_eq_some_iff.mp H
    obtain ⟨⟨t280, t281, t282⟩, A40, H⟩ := H
    replace H : ((table_LengthOf.f k (wrap64 ((wrap64 (257 + (wrap64 (Int.tmod (IntKind.u64.wrap (a0)) 27)))) + 1))).bind fun bt283 => ((table_DistOf.f k (wrap64 (Int.tmod (IntKind.u64.wrap (a0)) 29))).bind fun bt286 => ((table_DistOf.f k (wrap64 ((wrap64 (Int.tmod (IntKind.u64.wrap (a0)) 29)) + 1))).bind fun bt289 => ((table_LengthOf.f k 285).bind fun bt292 => ((table_DistOf.f k 29).bind fun bt295 => ((portagelaw0_Num.f t282).bind fun t298 => (if t298 = 0 then ((portagelaw0_Num.f bt283.2.2).bind fun t299 => (if t299 = 0 then ((portagelaw0_Num.f bt286.2.2).bind fun t300 => (if t300 = 0 then ((portagelaw0_Num.f bt289.2.2).bind fun t301 => (if t301 = 0 then (if t281 < 0 then (portagelaw6_TableSteps.j0 k t280 t281 bt283.1 bt286.1 bt286.2.1 bt289.1 bt292.1 bt292.2.1 bt292.2.2 bt295.1 bt295.2.1 bt295.2.2 true) else (if t281 > 5 then (portagelaw6_TableSteps.j0 k t280 t281 bt283.1 bt286.1 bt286.2.1 bt289.1 bt292.1 bt292.2.1 bt292.2.2 bt295.1 bt295.2.1 bt295.2.2 true) else (if bt286.2.1 < 0 then (portagelaw6_TableSteps.j0 k t280 t281 bt283.1 bt286.1 bt286.2.1 bt289.1 bt292.1 bt292.2.1 bt292.2.2 bt295.1 bt295.2.1 bt295.2.2 true) else (portagelaw6_TableSteps.j0 k t280 t281 bt283.1 bt286.1 bt286.2.1 bt289.1 bt292.1 bt292.2.1 bt292.2.2 bt295.1 bt295.2.1 bt295.2.2 (decide (bt286.2.1 > 13)))))) else (portagelaw6_TableSteps.j0 k t280 t281 bt283.1 bt286.1 bt286.2.1 bt289.1 bt292.1 bt292.2.1 bt292.2.2 bt295.1 bt295.2.1 bt295.2.2 true))) else (portagelaw6_TableSteps.j0 k t280 t281 bt283.1 bt286.1 bt286.2.1 bt289.1 bt292.1 bt292.2.1 bt292.2.2 bt295.1 bt295.2.1 bt295.2.2 true))) else (portagelaw6_TableSteps.j0 k t280 t281 bt283.1 bt286.1 bt286.2.1 bt289.1 bt292.1 bt292.2.1 bt292.2.2 bt295.1 bt295.2.1 bt295.2.2 true))) else (portagelaw6_TableSteps.j0 k t280 t281 bt283.1 bt286.1 bt286.2.1 bt289.1 bt292.1 bt292.2.1 bt292.2.2 bt295.1 bt295.2.1 bt295.2.2 true)))))))) = some r := H
    have A4 := Aside0.mk A40
    clear A40
    replace H := Option.bind_eq_some_iff.mp H
    obtain ⟨⟨t283, t284, t285⟩, A50, H⟩ := H
    replace H : ((table_DistOf.f k (wrap64 (Int.tmod (IntKind.u64.wrap (a0)) 29))).bind fun bt286 => ((table_DistOf.f k (wrap64 ((wrap64 (Int.tmod (IntKind.u64.wrap (a0)) 29)) + 1))).bind fun bt289 => ((table_LengthOf.f k 285).bind fun bt292 => ((table_DistOf.f k 29).bind fun bt295 => ((portagelaw0_Num.f t282).bind fun t298 => (if t298 = 0 then ((portagelaw0_Num.f t285).bind fun t299 => (if t299 = 0 then ((portagelaw0_Num.f bt286.2.2).bind fun t300 => (if t300 = 0 then ((portagelaw0_Num.f bt289.2.2).bind fun t301 => (if t301 = 0 then (if t281 < 0 then (portagelaw6_TableSteps.j0 k t280 t281 t283 bt286.1 bt286.2.1 bt289.1 bt292.1 bt292.2.1 bt292.2.2 bt295.1 bt295.2.1 bt295.2.2 true) else (if t281 > 5 then (portagelaw6_TableSteps.j0 k t280 t281 t283 bt286.1 bt286.2.1 bt289.1 bt292.1 bt292.2.1 bt292.2.2 bt295.1 bt295.2.1 bt295.2.2 true) else (if bt286.2.1 < 0 then (portagelaw6_TableSteps.j0 k t280 t281 t283 bt286.1 bt286.2.1 bt289.1 bt292.1 bt292.2.1 bt292.2.2 bt295.1 bt295.2.1 bt295.2.2 true) else (portagelaw6_TableSteps.j0 k t280 t281 t283 bt286.1 bt286.2.1 bt289.1 bt292.1 bt292.2.1 bt292.2.2 bt295.1 bt295.2.1 bt295.2.2 (decide (bt286.2.1 > 13)))))) else (portagelaw6_TableSteps.j0 k t280 t281 t283 bt286.1 bt286.2.1 bt289.1 bt292.1 bt292.2.1 bt292.2.2 bt295.1 bt295.2.1 bt295.2.2 true))) else (portagelaw6_TableSteps.j0 k t280 t281 t283 bt286.1 bt286.2.1 bt289.1 bt292.1 bt292.2.1 bt292.2.2 bt295.1 bt295.2.1 bt295.2.2 true))) else (portagelaw6_TableSteps.j0 k t280 t281 t283 bt286.1 bt286.2.1 bt289.1 bt292.1 bt292.2.1 bt292.2.2 bt295.1 bt295.2.1 bt295.2.2 true))) else (portagelaw6_TableSteps.j0 k t280 t281 t283 bt286.1 bt286.2.1 bt289.1 bt292.1 bt292.2.1 bt292.2.2 bt295.1 bt295.2.1 bt295.2.2 true))))))) = some r := H
    have A5 := Aside0.mk A50
    clear A50
    replace H := Option.bind_eq_some_iff.mp H
    obtain ⟨⟨t286, t287, t288⟩, A60, H⟩ := H
    replace H : ((table_DistOf.f k (wrap64 ((wrap64 (Int.tmod (IntKind.u64.wrap (a0)) 29)) + 1))).bind fun bt289 => ((table_LengthOf.f k 285).bind fun bt292 => ((table_DistOf.f k 29).bind fun bt295 => ((portagelaw0_Num.f t282).bind fun t298 => (if t298 = 0 then ((portagelaw0_Num.f t285).bind fun t299 => (if t299 = 0 then ((portagelaw0_Num.f t288).bind fun t300 => (if t300 = 0 then ((portagelaw0_Num.f bt289.2.2).bind fun t301 => (if t301 = 0 then (if t281 < 0 then (portagelaw6_TableSteps.j0 k t280 t281 t283 t286 t287 bt289.1 bt292.1 bt292.2.1 bt292.2.2 bt295.1 bt295.2.1 bt295.2.2 true) else (if t281 > 5 then (portagelaw6_TableSteps.j0 k t280 t281 t283 t286 t287 bt289.1 bt292.1 bt292.2.1 bt292.2.2 bt295.1 bt295.2.1 bt295.2.2 true) else (if t287 < 0 then (portagelaw6_TableSteps.j0 k t280 t281 t283 t286 t287 bt289.1 bt292.1 bt292.2.1 bt292.2.2 bt295.1 bt295.2.1 bt295.2.2 true) else (portagelaw6_TableSteps.j0 k t280 t281 t283 t286 t287 bt289.1 bt292.1 bt292.2.1 bt292.2.2 bt295.1 bt295.2.1 bt295.2.2 (decide (t287 > 13)))))) else (portagelaw6_TableSteps.j0 k t280 t281 t283 t286 t287 bt289.1 bt292.1 bt292.2.1 bt292.2.2 bt295.1 bt295.2.1 bt295.2.2 true))) else (portagelaw6_TableSteps.j0 k t280 t281 t283 t286 t287 bt289.1 bt292.1 bt292.2.1 bt292.2.2 bt295.1 bt295.2.1 bt295.2.2 true))) else (portagelaw6_TableSteps.j0 k t280 t281 t283 t286 t287 bt289.1 bt292.1 bt292.2.1 bt292.2.2 bt295.1 bt295.2.1 bt295.2.2 true))) else (portagelaw6_TableSteps.j0 k t280 t281 t283 t286 t287 bt289.1 bt292.1 bt292.2.1 bt292.2.2 bt295.1 bt295.2.1 bt295.2.2 true)))))) = some r := H
    have A6 := Aside0.mk A60
    clear A60
    replace H := Option.bind_eq_some_iff.mp H
    obtain ⟨⟨t289, t290, t291⟩, A70, H⟩ := H
    replace H : ((table_LengthOf.f k 285).bind fun bt292 => ((table_DistOf.f k 29).bind fun bt295 => ((portagelaw0_Num.f t282).bind fun t298 => (if t298 = 0 then ((portagelaw0_Num.f t285).bind fun t299 => (if t299 = 0 then ((portagelaw0_Num.f t288).bind fun t300 => (if t300 = 0 then ((portagelaw0_Num.f t291).bind fun t301 => (if t301 = 0 then (if t281 < 0 then (portagelaw6_TableSteps.j0 k t280 t281 t283 t286 t287 t289 bt292.1 bt292.2.1 bt292.2.2 bt295.1 bt295.2.1 bt295.2.2 true) else (if t281 > 5 then (portagelaw6_TableSteps.j0 k t280 t281 t283 t286 t287 t289 bt292.1 bt292.2.1 bt292.2.2 bt295.1 bt295.2.1 bt295.2.2 true) else (if t287 < 0 then (portagelaw6_TableSteps.j0 k t280 t281 t283 t286 t287 t289 bt292.1 bt292.2.1 bt292.2.2 bt295.1 bt295.2.1 bt295.2.2 true) else (portagelaw6_TableSteps.j0 k t280 t281 t283 t286 t287 t289 bt292.1 bt292.2.1 bt292.2.2 bt295.1 bt295.2.1 bt295.2.2 (decide (t287 > 13)))))) else (portagelaw6_TableSteps.j0 k t280 t281 t283 t286 t287 t289 bt292.1 bt292.2.1 bt292.2.2 bt295.1 bt295.2.1 bt295.2.2 true))) else (portagelaw6_TableSteps.j0 k t280 t281 t283 t286 t287 t289 bt292.1 bt292.2.1 bt292.2.2 bt295.1 bt295.2.1 bt295.2.2 true))) else (portagelaw6_TableSteps.j0 k t280 t281 t283 t286 t287 t289 bt292.1 bt292.2.1 bt292.2.2 bt295.1 bt295.2.1 bt295.2.2 true))) else (portagelaw6_TableSteps.j0 k t280 t281 t283 t286 t287 t289 bt292.1 bt292.2.1 bt292.2.2 bt295.1 bt295.2.1 bt295.2.2 true))))) = some r := H
    have A7 := Aside0.mk A70
    clear A70
    replace H := Option.bind_eq_some_iff.mp H
    obtain ⟨⟨t292, t293, t294⟩, A80, H⟩ := H
    replace H : ((table_DistOf.f k 29).bind fun bt295 => ((portagelaw0_Num.f t282).bind fun t298 => (if t298 = 0 then ((portagelaw0_Num.f t285).bind fun t299 => (if t299 = 0 then ((portagelaw0_Num.f t288).bind fun t300 => (if t300 = 0 then ((portagelaw0_Num.f t291).bind fun t301 => (if t301 = 0 then (if t281 < 0 then (portagelaw6_TableSteps.j0 k t280 t281 t283 t286 t287 t289 t292 t293 t294 bt295.1 bt295.2.1 bt295.2.2 true) else (if t281 > 5 then (portagelaw6_TableSteps.j0 k t280 t281 t283 t286 t287 t289 t292 t293 t294 bt295.1 bt295.2.1 bt295.2.2 true) else (if t287 < 0 then (portagelaw6_TableSteps.j0 k t280 t281 t283 t286 t287 t289 t292 t293 t294 bt295.1 bt295.2.1 bt295.2.2 true) else (portagelaw6_TableSteps.j0 k t280 t281 t283 t286 t287 t289 t292 t293 t294 bt295.1 bt295.2.1 bt295.2.2 (decide (t287 > 13)))))) else (portagelaw6_TableSteps.j0 k t280 t281 t283 t286 t287 t289 t292 t293 t294 bt295.1 bt295.2.1 bt295.2.2 true))) else (portagelaw6_TableSteps.j0 k t280 t281 t283 t286 t287 t289 t292 t293 t294 bt295.1 bt295.2.1 bt295.2.2 true))) else (portagelaw6_TableSteps.j0 k t280 t281 t283 t286 t287 t289 t292 t293 t294 bt295.1 bt295.2.1 bt295.2.2 true))) else (portagelaw6_TableSteps.j0 k t280 t281 t283 t286 t287 t289 t292 t293 t294 bt295.1 bt295.2.1 bt295.2.2 true)))) = some r := H
    have A8 := Aside0.mk A80
    clear A80
    replace H := Option.bind_eq_some_iff.mp H
    obtain ⟨⟨t295, t296, t297⟩, A90, H⟩ := H
    replace H : ((portagelaw0_Num.f t282).bind fun t298 => (if t298 = 0 then ((portagelaw0_Num.f t285).bind fun t299 => (if t299 = 0 then ((portagelaw0_Num.f t288).bind fun t300 => (if t300 = 0 then ((portagelaw0_Num.f t291).bind fun t301 => (if t301 = 0 then (if t281 < 0 then (portagelaw6_TableSteps.j0 k t280 t281 t283 t286 t287 t289 t292 t293 t294 t295 t296 t297 true) else (if t281 > 5 then (portagelaw6_TableSteps.j0 k t280 t281 t283 t286 t287 t289 t292 t293 t294 t295 t296 t297 true) else (if t287 < 0 then (portagelaw6_TableSteps.j0 k t280 t281 t283 t286 t287 t289 t292 t293 t294 t295 t296 t297 true) else (portagelaw6_TableSteps.j0 k t280 t281 t283 t286 t287 t289 t292 t293 t294 t295 t296 t297 (decide (t287 > 13)))))) else (portagelaw6_TableSteps.j0 k t280 t281 t283 t286 t287 t289 t292 t293 t294 t295 t296 t297 true))) else (portagelaw6_TableSteps.j0 k t280 t281 t283 t286 t287 t289 t292 t293 t294 t295 t296 t297 true))) else (portagelaw6_TableSteps.j0 k t280 t281 t283 t286 t287 t289 t292 t293 t294 t295 t296 t297 true))) else (portagelaw6_TableSteps.j0 k t280 t281 t283 t286 t287 t289 t292 t293 t294 t295 t296 t297 true))) = some r := H
    have A9 := Aside0.mk A90
    clear A90
    have HC10 := Aside0.mk H
    clear H
    go_enter Try.func17, Try.ntmps17
    go_upto_region 11 with (first | ((with_reducible refine gate_callee (f := 64) rfl ?_); refine goesL_ (some 23) rfl rfl Try.func64 (by kernel_rfl) rfl #[] rfl (by (try simp only [List.map_toArray, List.map_cons, List.map_nil]); first | done | rfl | (simp only [List.length_drop, List.length_take]; rfl)) ?_; (with_reducible refine (portagelaw6_awake.calls k  true _ A2.out).mono ?_); rintro e w11 ⟨rfl, hb⟩; refine ⟨_, rfl, ?_⟩; have n0_ := Aside0.mk (below_step (by repeat (first | (with_reducible first | exact HB.out | apply below_alloc | apply pw_below_drewN | apply below_drew1) | exact HB.out)) hb); clear HB; have HB := n0_; clear n0_; (try clear hb); (try clear hb2); (try clear hk); (try clear hi)) | ((with_reducible refine gate_callee (f := 54) rfl ?_); refine goesL_ (some 32) rfl rfl Try.func54 (by kernel_rfl) rfl #[.int .i64 (wrap64 (257 + (wrap64 (Int.tmod (IntKind.u64.wrap (a0)) 27))))] rfl (by (try simp only [List.map_toArray, List.map_cons, List.map_nil]); first | done | rfl | (simp only [List.length_drop, List.length_take]; rfl)) ?_; (with_reducible refine (table_LengthOf.calls k (wrap64 (257 + (wrap64 (Int.tmod (IntKind.u64.wrap (a0)) 27)))) t280 t281 t282 _ A4.out).mono ?_); rintro e w' ⟨rfl, ⟨nd, rfl⟩⟩; refine ⟨_, rfl, ?_⟩) | ((with_reducible refine gate_callee (f := 54) rfl ?_); refine goesL_ (some 39) rfl rfl Try.func54 (by kernel_rfl) rfl #[.int .i64 (wrap64 ((wrap64 (257 + (wrap64 (Int.tmod (IntKind.u64.wrap (a0)) 27)))) + 1))] rfl (by (try simp only [List.map_toArray, List.map_cons, List.map_nil]); first | done | rfl | (simp only [List.length_drop, List.length_take]; rfl)) ?_; (with_reducible refine (table_LengthOf.calls k (wrap64 ((wrap64 (257 + (wrap64 (Int.tmod (IntKind.u64.wrap (a0)) 27)))) + 1)) t283 t284 t285 _ A5.out).mono ?_); rintro e w' ⟨rfl, ⟨nd, rfl⟩⟩; refine ⟨_, rfl, ?_⟩) | ((with_reducible refine gate_callee (f := 58) rfl ?_); refine goesL_ (some 49) rfl rfl Try.func58 (by kernel_rfl) rfl #[.int .i64 (wrap64 (Int.tmod (IntKind.u64.wrap (a0)) 29))] rfl (by (try simp only [List.map_toArray, List.map_cons, List.map_nil]); first | done | rfl | (simp only [List.length_drop, List.length_take]; rfl)) ?_; (with_reducible refine (table_DistOf.calls k (wrap64 (Int.tmod (IntKind.u64.wrap (a0)) 29)) t286 t287 t288 _ A6.out).mono ?_); rintro e w' ⟨rfl, ⟨nd, rfl⟩⟩; refine ⟨_, rfl, ?_⟩) | ((with_reducible refine gate_callee (f := 58) rfl ?_); refine goesL_ (some 56) rfl rfl Try.func58 (by kernel_rfl) rfl #[.int .i64 (wrap64 ((wrap64 (Int.tmod (IntKind.u64.wrap (a0)) 29)) + 1))] rfl (by (try simp only [List.map_toArray, List.map_cons, List.map_nil]); first | done | rfl | (simp only [List.length_drop, List.length_take]; rfl)) ?_; (with_reducible refine (table_DistOf.calls k (wrap64 ((wrap64 (Int.tmod (IntKind.u64.wrap (a0)) 29)) + 1)) t289 t290 t291 _ A7.out).mono ?_); rintro e w' ⟨rfl, ⟨nd, rfl⟩⟩; refine ⟨_, rfl, ?_⟩) | ((with_reducible refine gate_callee (f := 54) rfl ?_); refine goesL_ (some 61) rfl rfl Try.func54 (by kernel_rfl) rfl #[.int .i64 285] rfl (by (try simp only [List.map_toArray, List.map_cons, List.map_nil]); first | done | rfl | (simp only [List.length_drop, List.length_take]; rfl)) ?_; (with_reducible refine (table_LengthOf.calls k 285 t292 t293 t294 _ A8.out).mono ?_); rintro e w' ⟨rfl, ⟨nd, rfl⟩⟩; refine ⟨_, rfl, ?_⟩) | ((with_reducible refine gate_callee (f := 58) rfl ?_); refine goesL_ (some 66) rfl rfl Try.func58 (by kernel_rfl) rfl #[.int .i64 29] rfl (by (try simp only [List.map_toArray, List.map_cons, List.map_nil]); first | done | rfl | (simp only [List.length_drop, List.length_take]; rfl)) ?_; (with_reducible refine (table_DistOf.calls k 29 t295 t296 t297 _ A9.out).mono ?_); rintro e w' ⟨rfl, ⟨nd, rfl⟩⟩; refine ⟨_, rfl, ?_⟩))
    (try simp only [Act.put, List.setIfInBounds_toArray, List.set_cons_zero, List.set_cons_succ])
    go_cut [103] (fun v103 wc => ∃ (kq : Nat) (x103_9 : Bool), v103 = .bool x103_9 ∧ Aside0 (portagelaw6_TableSteps.j0 kq t280 t281 t283 t286 t287 t289 t292 t293 t294 t295 t296 t297 x103_9 = some r) ∧ Aside0 (kq ≤ k) ∧ Aside0 (Below w.heap.size w wc))
    case first =>
      have H := HC10.out
      clear HC10
      replace H := Option.bind_eq_some_iff.mp H
      obtain ⟨t298, A120, H⟩ := H
      replace H : (if t298 = 0 then ((portagelaw0_Num.f t285).bind fun t299 => (if t299 = 0 then ((portagelaw0_Num.f t288).bind fun t300 => (if t300 = 0 then ((portagelaw0_Num.f t291).bind fun t301 => (if t301 = 0 then (if t281 < 0 then (portagelaw6_TableSteps.j0 k t280 t281 t283 t286 t287 t289 t292 t293 t294 t295 t296 t297 true) else (if t281 > 5 then (portagelaw6_TableSteps.j0 k t280 t281 t283 t286 t287 t289 t292 t293 t294 t295 t296 t297 true) else (if t287 < 0 then (portagelaw6_TableSteps.j0 k t280 t281 t283 t286 t287 t289 t292 t293 t294 t295 t296 t297 true) else (portagelaw6_TableSteps.j0 k t280 t281 t283 t286 t287 t289 t292 t293 t294 t295 t296 t297 (decide (t287 > 13)))))) else (portagelaw6_TableSteps.j0 k t280 t281 t283 t286 t287 t289 t292 t293 t294 t295 t296 t297 true))) else (portagelaw6_TableSteps.j0 k t280 t281 t283 t286 t287 t289 t292 t293 t294 t295 t296 t297 true))) else (portagelaw6_TableSteps.j0 k t280 t281 t283 t286 t287 t289 t292 t293 t294 t295 t296 t297 true))) else (portagelaw6_TableSteps.j0 k t280 t281 t283 t286 t287 t289 t292 t293 t294 t295 t296 t297 true)) = some r := H
      have A12 := Aside0.mk A120
      clear A120
      by_cases c13 : t298 = 0
      · rw [if_pos c13] at H
        have c13b0 : (t298 == 0) = true := beq_iff_eq.mpr c13
        have c13b1 : (t298 != 0) = false := bne_eq_false_iff_eq.mpr c13
        clear c13
        (first | rw [c13b0] | (simp only [i64_w, i32_w]; rw [c13b0]) | skip)
        replace H := Option.bind_eq_some_iff.mp H
        obtain ⟨t299, A140, H⟩ := H
        replace H : (if t299 = 0 then ((portagelaw0_Num.f t288).bind fun t300 => (if t300 = 0 then ((portagelaw0_Num.f t291).bind fun t301 => (if t301 = 0 then (if t281 < 0 then (portagelaw6_TableSteps.j0 k t280 t281 t283 t286 t287 t289 t292 t293 t294 t295 t296 t297 true) else (if t281 > 5 then (portagelaw6_TableSteps.j0 k t280 t281 t283 t286 t287 t289 t292 t293 t294 t295 t296 t297 true) else (if t287 < 0 then (portagelaw6_TableSteps.j0 k t280 t281 t283 t286 t287 t289 t292 t293 t294 t295 t296 t297 true) else (portagelaw6_TableSteps.j0 k t280 t281 t283 t286 t287 t289 t292 t293 t294 t295 t296 t297 (decide (t287 > 13)))))) else (portagelaw6_TableSteps.j0 k t280 t281 t283 t286 t287 t289 t292 t293 t294 t295 t296 t297 true))) else (portagelaw6_TableSteps.j0 k t280 t281 t283 t286 t287 t289 t292 t293 t294 t295 t296 t297 true))) else (portagelaw6_TableSteps.j0 k t280 t281 t283 t286 t287 t289 t292 t293 t294 t295 t296 t297 true)) = some r := H
        have A14 := Aside0.mk A140
        clear A140
        by_cases c15 : t299 = 0
        · rw [if_pos c15] at H
          have c15b0 : (t299 == 0) = true := beq_iff_eq.mpr c15
          have c15b1 : (t299 != 0) = false := bne_eq_false_iff_eq.mpr c15
          clear c15
          replace H := Option.bind_eq_some_iff.mp H
          obtain ⟨t300, A160, H⟩ := H
          replace H : (if t300 = 0 then ((portagelaw0_Num.f t291).bind fun t301 => (if t301 = 0 then (if t281 < 0 then (portagelaw6_TableSteps.j0 k t280 t281 t283 t286 t287 t289 t292 t293 t294 t295 t296 t297 true) else (if t281 > 5 then (portagelaw6_TableSteps.j0 k t280 t281 t283 t286 t287 t289 t292 t293 t294 t295 t296 t297 true) else (if t287 < 0 then (portagelaw6_TableSteps.j0 k t280 t281 t283 t286 t287 t289 t292 t293 t294 t295 t296 t297 true) else (portagelaw6_TableSteps.j0 k t280 t281 t283 t286 t287 t289 t292 t293 t294 t295 t296 t297 (decide (t287 > 13)))))) else (portagelaw6_TableSteps.j0 k t280 t281 t283 t286 t287 t289 t292 t293 t294 t295 t296 t297 true))) else (portagelaw6_TableSteps.j0 k t280 t281 t283 t286 t287 t289 t292 t293 t294 t295 t296 t297 true)) = some r := H
          have A16 := Aside0.mk A160
          clear A160
          by_cases c17 : t300 = 0
          · rw [if_pos c17] at H
            have c17b0 : (t300 == 0) = true := beq_iff_eq.mpr c17
            have c17b1 : (t300 != 0) = false := bne_eq_false_iff_eq.mpr c17
            clear c17
            replace H := Option.bind_eq_some_iff.mp H
            obtain ⟨t301, A180, H⟩ := H
            replace H : (if t301 = 0 then (if t281 < 0 then (portagelaw6_TableSteps.j0 k t280 t281 t283 t286 t287 t289 t292 t293 t294 t295 t296 t297 true) else (if t281 > 5 then (portagelaw6_TableSteps.j0 k t280 t281 t283 t286 t287 t289 t292 t293 t294 t295 t296 t297 true) else (if t287 < 0 then (portagelaw6_TableSteps.j0 k t280 t281 t283 t286 t287 t289 t292 t293 t294 t295 t296 t297 true) else (portagelaw6_TableSteps.j0 k t280 t281 t283 t286 t287 t289 t292 t293 t294 t295 t296 t297 (decide (t287 > 13)))))) else (portagelaw6_TableSteps.j0 k t280 t281 t283 t286 t287 t289 t292 t293 t294 t295 t296 t297 true)) = some r := H
            have A18 := Aside0.mk A180
            clear A180
            by_cases c19 : t301 = 0
            · rw [if_pos c19] at H
              have c19b0 : (t301 == 0) = true := beq_iff_eq.mpr c19
              have c19b1 : (t301 != 0) = false := bne_eq_false_iff_eq.mpr c19
              clear c19
              by_cases c20 : t281 < 0
              · rw [if_pos c20] at H
                have c20b0 : decide (t281 < 0) = true := decide_eq_true c20
                clear c20
                have H' := Aside0.mk H
                clear H
                go_wp2_with (first | ((with_reducible refine gate_callee (f := 29) rfl ?_); refine goesL_ (some 71) rfl rfl Try.func29 (by kernel_rfl) rfl #[.int .i64 t282] rfl (by (try simp only [List.map_toArray, List.map_cons, List.map_nil]); first | done | rfl | (simp only [List.length_drop, List.length_take]; rfl)) ?_; (with_reducible refine (portagelaw0_Num.calls t282 t298 _ A12.out).mono ?_); rintro e w' ⟨rfl, ⟨nd, rfl⟩⟩; refine ⟨_, rfl, ?_⟩) | (go_at_call 29; (with_reducible refine (portagelaw0_Num.calls t285 t299 _ A14.out).mono ?_); rintro e w' ⟨rfl, ⟨nd, rfl⟩⟩) | (go_at_call 29; (with_reducible refine (portagelaw0_Num.calls t288 t300 _ A16.out).mono ?_); rintro e w' ⟨rfl, ⟨nd, rfl⟩⟩) | (go_at_call 29; (with_reducible refine (portagelaw0_Num.calls t291 t301 _ A18.out).mono ?_); rintro e w' ⟨rfl, ⟨nd, rfl⟩⟩))
                go_meet
                case rel => exact ⟨_, (true), (by first | rfl | (simp; done) | (simp [*]; done)), H', ⟨by first | omega | exact Nat.le_refl _⟩, ⟨by repeat (first | (with_reducible first | exact HB.out | apply below_alloc | apply pw_below_drewN | apply below_drew1) | exact HB.out)⟩⟩
              · rw [if_neg c20] at H
                have c20b0 : decide (t281 < 0) = false := decide_eq_false c20
                clear c20
                by_cases c21 : t281 > 5
                · rw [if_pos c21] at H
                  have c21b0 : decide (5 < t281) = true := decide_eq_true c21
                  clear c21
                  have H' := Aside0.mk H
                  clear H
                  go_wp2_with (first | ((with_reducible refine gate_callee (f := 29) rfl ?_); refine goesL_ (some 71) rfl rfl Try.func29 (by kernel_rfl) rfl #[.int .i64 t282] rfl (by (try simp only [List.map_toArray, List.map_cons, List.map_nil]); first | done | rfl | (simp only [List.length_drop, List.length_take]; rfl)) ?_; (with_reducible refine (portagelaw0_Num.calls t282 t298 _ A12.out).mono ?_); rintro e w' ⟨rfl, ⟨nd, rfl⟩⟩; refine ⟨_, rfl, ?_⟩) | (go_at_call 29; (with_reducible refine (portagelaw0_Num.calls t285 t299 _ A14.out).mono ?_); rintro e w' ⟨rfl, ⟨nd, rfl⟩⟩) | (go_at_call 29; (with_reducible refine (portagelaw0_Num.calls t288 t300 _ A16.out).mono ?_); rintro e w' ⟨rfl, ⟨nd, rfl⟩⟩) | (go_at_call 29; (with_reducible refine (portagelaw0_Num.calls t291 t301 _ A18.out).mono ?_); rintro e w' ⟨rfl, ⟨nd, rfl⟩⟩))
                  go_meet
                  case rel => exact ⟨_, (true), (by first | rfl | (simp; done) | (simp [*]; done)), H', ⟨by first | omega | exact Nat.le_refl _⟩, ⟨by repeat (first | (with_reducible first | exact HB.out | apply below_alloc | apply pw_below_drewN | apply below_drew1) | exact HB.out)⟩⟩
                · rw [if_neg c21] at H
                  have c21b0 : decide (5 < t281) = false := decide_eq_false c21
                  clear c21
                  by_cases c22 : t287 < 0
                  · rw [if_pos c22] at H
                    have c22b0 : decide (t287 < 0) = true := decide_eq_true c22
                    clear c22
                    have H' := Aside0.mk H
                    clear H
                    go_wp2_with (first | ((with_reducible refine gate_callee (f := 29) rfl ?_); refine goesL_ (some 71) rfl rfl Try.func29 (by kernel_rfl) rfl #[.int .i64 t282] rfl (by (try simp only [List.map_toArray, List.map_cons, List.map_nil]); first | done | rfl | (simp only [List.length_drop, List.length_take]; rfl)) ?_; (with_reducible refine (portagelaw0_Num.calls t282 t298 _ A12.out).mono ?_); rintro e w' ⟨rfl, ⟨nd, rfl⟩⟩; refine ⟨_, rfl, ?_⟩) | (go_at_call 29; (with_reducible refine (portagelaw0_Num.calls t285 t299 _ A14.out).mono ?_); rintro e w' ⟨rfl, ⟨nd, rfl⟩⟩) | (go_at_call 29; (with_reducible refine (portagelaw0_Num.calls t288 t300 _ A16.out).mono ?_); rintro e w' ⟨rfl, ⟨nd, rfl⟩⟩) | (go_at_call 29; (with_reducible refine (portagelaw0_Num.calls t291 t301 _ A18.out).mono ?_); rintro e w' ⟨rfl, ⟨nd, rfl⟩⟩))
                    go_meet
                    case rel => exact ⟨_, (true), (by first | rfl | (simp; done) | (simp [*]; done)), H', ⟨by first | omega | exact Nat.le_refl _⟩, ⟨by repeat (first | (with_reducible first | exact HB.out | apply below_alloc | apply pw_below_drewN | apply below_drew1) | exact HB.out)⟩⟩
                  · rw [if_neg c22] at H
                    have c22b0 : decide (t287 < 0) = false := decide_eq_false c22
                    clear c22
                    have H' := Aside0.mk H
                    clear H
                    go_wp2_with (first | ((with_reducible refine gate_callee (f := 29) rfl ?_); refine goesL_ (some 71) rfl rfl Try.func29 (by kernel_rfl) rfl #[.int .i64 t282] rfl (by (try simp only [List.map_toArray, List.map_cons, List.map_nil]); first | done | rfl | (simp only [List.length_drop, List.length_take]; rfl)) ?_; (with_reducible refine (portagelaw0_Num.calls t282 t298 _ A12.out).mono ?_); rintro e w' ⟨rfl, ⟨nd, rfl⟩⟩; refine ⟨_, rfl, ?_⟩) | (go_at_call 29; (with_reducible refine (portagelaw0_Num.calls t285 t299 _ A14.out).mono ?_); rintro e w' ⟨rfl, ⟨nd, rfl⟩⟩) | (go_at_call 29; (with_reducible refine (portagelaw0_Num.calls t288 t300 _ A16.out).mono ?_); rintro e w' ⟨rfl, ⟨nd, rfl⟩⟩) | (go_at_call 29; (with_reducible refine (portagelaw0_Num.calls t291 t301 _ A18.out).mono ?_); rintro e w' ⟨rfl, ⟨nd, rfl⟩⟩))
                    go_meet
                    case rel => exact ⟨_, (decide (t287 > 13)), (by first | rfl | (simp; done) | (simp [*]; done)), H', ⟨by first | omega | exact Nat.le_refl _⟩, ⟨by repeat (first | (with_reducible first | exact HB.out | apply below_alloc | apply pw_below_drewN | apply below_drew1) | exact HB.out)⟩⟩
            · rw [if_neg c19] at H
              have c19b0 : (t301 == 0) = false := beq_eq_false_iff_ne.mpr c19
              have c19b1 : (t301 != 0) = true := bne_iff_ne.mpr c19
              have H' := Aside0.mk H
              clear H
              go_wp2_with (first | ((with_reducible refine gate_callee (f := 29) rfl ?_); refine goesL_ (some 71) rfl rfl Try.func29 (by kernel_rfl) rfl #[.int .i64 t282] rfl (by (try simp only [List.map_toArray, List.map_cons, List.map_nil]); first | done | rfl | (simp only [List.length_drop, List.length_take]; rfl)) ?_; (with_reducible refine (portagelaw0_Num.calls t282 t298 _ A12.out).mono ?_); rintro e w' ⟨rfl, ⟨nd, rfl⟩⟩; refine ⟨_, rfl, ?_⟩) | (go_at_call 29; (with_reducible refine (portagelaw0_Num.calls t285 t299 _ A14.out).mono ?_); rintro e w' ⟨rfl, ⟨nd, rfl⟩⟩) | (go_at_call 29; (with_reducible refine (portagelaw0_Num.calls t288 t300 _ A16.out).mono ?_); rintro e w' ⟨rfl, ⟨nd, rfl⟩⟩) | (go_at_call 29; (with_reducible refine (portagelaw0_Num.calls t291 t301 _ A18.out).mono ?_); rintro e w' ⟨rfl, ⟨nd, rfl⟩⟩))
              go_meet
              case rel => exact ⟨_, (true), (by first | rfl | (simp; done) | (simp [*]; done)), H', ⟨by first | omega | exact Nat.le_refl _⟩, ⟨by repeat (first | (with_reducible first | exact HB.out | apply below_alloc | apply pw_below_drewN | apply below_drew1) | exact HB.out)⟩⟩
          · rw [if_neg c17] at H
            have c17b0 : (t300 == 0) = false := beq_eq_false_iff_ne.mpr c17
            have c17b1 : (t300 != 0) = true := bne_iff_ne.mpr c17
            have H' := Aside0.mk H
            clear H
            go_wp2_with (first | ((with_reducible refine gate_callee (f := 29) rfl ?_); refine goesL_ (some 71) rfl rfl Try.func29 (by kernel_rfl) rfl #[.int .i64 t282] rfl (by (try simp only [List.map_toArray, List.map_cons, List.map_nil]); first | done | rfl | (simp only [List.length_drop, List.length_take]; rfl)) ?_; (with_reducible refine (portagelaw0_Num.calls t282 t298 _ A12.out).mono ?_); rintro e w' ⟨rfl, ⟨nd, rfl⟩⟩; refine ⟨_, rfl, ?_⟩) | (go_at_call 29; (with_reducible refine (portagelaw0_Num.calls t285 t299 _ A14.out).mono ?_); rintro e w' ⟨rfl, ⟨nd, rfl⟩⟩) | (go_at_call 29; (with_reducible refine (portagelaw0_Num.calls t288 t300 _ A16.out).mono ?_); rintro e w' ⟨rfl, ⟨nd, rfl⟩⟩))
            go_meet
            case rel => exact ⟨_, (true), (by first | rfl | (simp; done) | (simp [*]; done)), H', ⟨by first | omega | exact Nat.le_refl _⟩, ⟨by repeat (first | (with_reducible first | exact HB.out | apply below_alloc | apply pw_below_drewN | apply below_drew1) | exact HB.out)⟩⟩
        · rw [if_neg c15] at H
          have c15b0 : (t299 == 0) = false := beq_eq_false_iff_ne.mpr c15
          have c15b1 : (t299 != 0) = true := bne_iff_ne.mpr c15
          have H' := Aside0.mk H
          clear H
          go_wp2_with (first | ((with_reducible refine gate_callee (f := 29) rfl ?_); refine goesL_ (some 71) rfl rfl Try.func29 (by kernel_rfl) rfl #[.int .i64 t282] rfl (by (try simp only [List.map_toArray, List.map_cons, List.map_nil]); first | done | rfl | (simp only [List.length_drop, List.length_take]; rfl)) ?_; (with_reducible refine (portagelaw0_Num.calls t282 t298 _ A12.out).mono ?_); rintro e w' ⟨rfl, ⟨nd, rfl⟩⟩; refine ⟨_, rfl, ?_⟩) | (go_at_call 29; (with_reducible refine (portagelaw0_Num.calls t285 t299 _ A14.out).mono ?_); rintro e w' ⟨rfl, ⟨nd, rfl⟩⟩))
          go_meet
          case rel => exact ⟨_, (true), (by first | rfl | (simp; done) | (simp [*]; done)), H', ⟨by first | omega | exact Nat.le_refl _⟩, ⟨by repeat (first | (with_reducible first | exact HB.out | apply below_alloc | apply pw_below_drewN | apply below_drew1) | exact HB.out)⟩⟩
      · rw [if_neg c13] at H
        have c13b0 : (t298 == 0) = false := beq_eq_false_iff_ne.mpr c13
        have c13b1 : (t298 != 0) = true := bne_iff_ne.mpr c13
        (first | rw [c13b0] | (simp only [i64_w, i32_w]; rw [c13b0]) | skip)
        have H' := Aside0.mk H
        clear H
        go_wp2_with (first | ((with_reducible refine gate_callee (f := 29) rfl ?_); refine goesL_ (some 71) rfl rfl Try.func29 (by kernel_rfl) rfl #[.int .i64 t282] rfl (by (try simp only [List.map_toArray, List.map_cons, List.map_nil]); first | done | rfl | (simp only [List.length_drop, List.length_take]; rfl)) ?_; (with_reducible refine (portagelaw0_Num.calls t282 t298 _ A12.out).mono ?_); rintro e w' ⟨rfl, ⟨nd, rfl⟩⟩; refine ⟨_, rfl, ?_⟩))
        go_meet
        case rel => exact ⟨_, (true), (by first | rfl | (simp; done) | (simp [*]; done)), H', ⟨by first | omega | exact Nat.le_refl _⟩, ⟨by repeat (first | (with_reducible first | exact HB.out | apply below_alloc | apply pw_below_drewN | apply below_drew1) | exact HB.out)⟩⟩
    case rest =>
      clear HC10
      try clear c1
      try clear c2
      try clear p2
      try clear c3
      try clear c5
      try clear c6
      try clear p6
      try clear c13
      try clear c13b0
      try clear c13b1
      try clear c15
      try clear c15b0
      try clear c15b1
      try clear c17
      try clear c17b0
      try clear c17b1
      try clear c19
      try clear c19b0
      try clear c19b1
      try clear c20
      try clear c20b0
      try clear c21
      try clear c21b0
      try clear c22
      try clear c22b0
      obtain ⟨kq, x103_9, rfl, HA, HJ9, HB⟩ := hcut
      cases kq with
      | zero => exact absurd HA.out (by simp [portagelaw6_TableSteps.j0])
      | succ kj9 =>
        have H := HA.out
        clear HA
        simp only [portagelaw6_TableSteps.j0] at H
        by_cases c23 : x103_9 = true
        · subst c23
          have H1 : (none) = some r := by rw [if_pos rfl] at H; exact H
          clear H
          have H := H1
          clear H1
          exact absurd H (by simp)
        · replace c23 := Bool.eq_false_iff.mpr c23
          subst c23
          have H1 : (if 0 ≤ t281 then (if t283 = (wrap64 (t280 + (shl .i64 1 t281))) then (if 0 ≤ t287 then (if t289 = (wrap64 (t286 + (shl .i64 1 t287))) then (if t292 = 258 then (if t293 = 0 then ((portagelaw0_Num.f t294).bind fun t302 => (if t302 = 0 then (if 0 ≤ t296 then (if (wrap64 (t295 + (shl .i64 1 t296))) = 32769 then ((portagelaw0_Num.f t297).bind fun t303 => (some (t303 == 0))) else (none)) else (none)) else (none))) else (none)) else (none)) else (none)) else (none)) else (none)) else (none)) = some r := by rw [if_neg (show ¬ (false = true) by decide)] at H; exact H
          clear H
          have H := H1
          clear H1
          by_cases c24 : 0 ≤ t281
          · rw [if_pos c24] at H
            have c24b0 := eq_true c24
            have c24b1 : decide (0 ≤ t281) = true := decide_eq_true c24
            clear c24
            obtain ⟨ji25, hji25⟩ : ∃ j_ : Int, (shl .i64 1 t281) = j_ := ⟨_, rfl⟩
            replace H : (if t283 = (wrap64 (t280 + (ji25))) then (if 0 ≤ t287 then (if t289 = (wrap64 (t286 + (shl .i64 1 t287))) then (if t292 = 258 then (if t293 = 0 then ((portagelaw0_Num.f t294).bind fun t302 => (if t302 = 0 then (if 0 ≤ t296 then (if (wrap64 (t295 + (shl .i64 1 t296))) = 32769 then ((portagelaw0_Num.f t297).bind fun t303 => (some (t303 == 0))) else (none)) else (none)) else (none))) else (none)) else (none)) else (none)) else (none)) else (none)) = some r := by first | (rw [hji25] at H; exact H) | (simp only [hji25] at H ⊢; exact H)
            have hji25_ : (IntKind.i64.wrap (1 * 2 ^ min t281.toNat 64)) = ji25 := hji25
            have hji25z : t281 ≤ 64 → (IntKind.i64.wrap (1 * 2 ^ t281.toNat)) = ji25 := shl_small hji25
            have hji25u : (IntKind.i64.wrap (2 ^ min t281.toNat 64)) = ji25 := by have h_ := hji25_; rw [Int.one_mul] at h_; exact h_
            have hji25v : t281 ≤ 64 → (IntKind.i64.wrap (2 ^ t281.toNat)) = ji25 := fun hle_ => by have h_ := hji25z hle_; rw [Int.one_mul] at h_; exact h_
            have hji25y : (wrap64 (1 * 2 ^ min t281.toNat 64)) = ji25 := (i64_w _).symm.trans hji25_
            have hji25x : t281 ≤ 64 → (wrap64 (1 * 2 ^ t281.toNat)) = ji25 := fun h_ => (i64_w _).symm.trans (hji25z h_)
            by_cases c26 : t283 = (wrap64 (t280 + (ji25)))
            · rw [if_pos c26] at H
              have c26b0 : (t283 == (wrap64 (t280 + (ji25)))) = true := beq_iff_eq.mpr c26
              have c26b1 : (t283 != (wrap64 (t280 + (ji25)))) = false := bne_eq_false_iff_eq.mpr c26
              clear c26
              by_cases c27 : 0 ≤ t287
              · rw [if_pos c27] at H
                have c27b0 := eq_true c27
                have c27b1 : decide (0 ≤ t287) = true := decide_eq_true c27
                clear c27
                obtain ⟨ji28, hji28⟩ : ∃ j_ : Int, (shl .i64 1 t287) = j_ := ⟨_, rfl⟩
                replace H : (if t289 = (wrap64 (t286 + (ji28))) then (if t292 = 258 then (if t293 = 0 then ((portagelaw0_Num.f t294).bind fun t302 => (if t302 = 0 then (if 0 ≤ t296 then (if (wrap64 (t295 + (shl .i64 1 t296))) = 32769 then ((portagelaw0_Num.f t297).bind fun t303 => (some (t303 == 0))) else (none)) else (none)) else (none))) else (none)) else (none)) else (none)) = some r := by first | (rw [hji28] at H; exact H) | (simp only [hji28] at H ⊢; exact H)
                have hji28_ : (IntKind.i64.wrap (1 * 2 ^ min t287.toNat 64)) = ji28 := hji28
                have hji28z : t287 ≤ 64 → (IntKind.i64.wrap (1 * 2 ^ t287.toNat)) = ji28 := shl_small hji28
                have hji28u : (IntKind.i64.wrap (2 ^ min t287.toNat 64)) = ji28 := by have h_ := hji28_; rw [Int.one_mul] at h_; exact h_
                have hji28v : t287 ≤ 64 → (IntKind.i64.wrap (2 ^ t287.toNat)) = ji28 := fun hle_ => by have h_ := hji28z hle_; rw [Int.one_mul] at h_; exact h_
                have hji28y : (wrap64 (1 * 2 ^ min t287.toNat 64)) = ji28 := (i64_w _).symm.trans hji28_
                have hji28x : t287 ≤ 64 → (wrap64 (1 * 2 ^ t287.toNat)) = ji28 := fun h_ => (i64_w _).symm.trans (hji28z h_)
                by_cases c29 : t289 = (wrap64 (t286 + (ji28)))
                · rw [if_pos c29] at H
                  have c29b0 : (t289 == (wrap64 (t286 + (ji28)))) = true := beq_iff_eq.mpr c29
                  have c29b1 : (t289 != (wrap64 (t286 + (ji28)))) = false := bne_eq_false_iff_eq.mpr c29
                  clear c29
                  by_cases c30 : t292 = 258
                  · rw [if_pos c30] at H
                    have c30b0 : (t292 == 258) = true := beq_iff_eq.mpr c30
                    have c30b1 : (t292 != 258) = false := bne_eq_false_iff_eq.mpr c30
                    clear c30
                    by_cases c31 : t293 = 0
                    · rw [if_pos c31] at H
                      have c31b0 : (t293 == 0) = true := beq_iff_eq.mpr c31
                      have c31b1 : (t293 != 0) = false := bne_eq_false_iff_eq.mpr c31
                      clear c31
                      replace H := Option.bind_eq_some_iff.mp H
                      obtain ⟨t302, A320, H⟩ := H
                      replace H : (if t302 = 0 then (if 0 ≤ t296 then (if (wrap64 (t295 + (shl .i64 1 t296))) = 32769 then ((portagelaw0_Num.f t297).bind fun t303 => (some (t303 == 0))) else (none)) else (none)) else (none)) = some r := H
                      have A32 := Aside0.mk A320
                      clear A320
                      by_cases c33 : t302 = 0
                      · rw [if_pos c33] at H
                        have c33b0 : (t302 == 0) = true := beq_iff_eq.mpr c33
                        have c33b1 : (t302 != 0) = false := bne_eq_false_iff_eq.mpr c33
                        clear c33
                        by_cases c34 : 0 ≤ t296
                        · rw [if_pos c34] at H
                          have c34b0 := eq_true c34
                          have c34b1 : decide (0 ≤ t296) = true := decide_eq_true c34
                          clear c34
                          obtain ⟨ji35, hji35⟩ : ∃ j_ : Int, (shl .i64 1 t296) = j_ := ⟨_, rfl⟩
                          replace H : (if (wrap64 (t295 + (ji35))) = 32769 then ((portagelaw0_Num.f t297).bind fun t303 => (some (t303 == 0))) else (none)) = some r := by first | (rw [hji35] at H; exact H) | (simp only [hji35] at H ⊢; exact H)
                          (try rw [hji35] at A32)
                          have hji35_ : (IntKind.i64.wrap (1 * 2 ^ min t296.toNat 64)) = ji35 := hji35
                          have hji35z : t296 ≤ 64 → (IntKind.i64.wrap (1 * 2 ^ t296.toNat)) = ji35 := shl_small hji35
                          have hji35u : (IntKind.i64.wrap (2 ^ min t296.toNat 64)) = ji35 := by have h_ := hji35_; rw [Int.one_mul] at h_; exact h_
                          have hji35v : t296 ≤ 64 → (IntKind.i64.wrap (2 ^ t296.toNat)) = ji35 := fun hle_ => by have h_ := hji35z hle_; rw [Int.one_mul] at h_; exact h_
                          have hji35y : (wrap64 (1 * 2 ^ min t296.toNat 64)) = ji35 := (i64_w _).symm.trans hji35_
                          have hji35x : t296 ≤ 64 → (wrap64 (1 * 2 ^ t296.toNat)) = ji35 := fun h_ => (i64_w _).symm.trans (hji35z h_)
                          by_cases c36 : (wrap64 (t295 + (ji35))) = 32769
                          · rw [if_pos c36] at H
                            have c36b0 : ((wrap64 (t295 + (ji35))) == 32769) = true := beq_iff_eq.mpr c36
                            have c36b1 : ((wrap64 (t295 + (ji35))) != 32769) = false := bne_eq_false_iff_eq.mpr c36
                            clear c36
                            replace H := Option.bind_eq_some_iff.mp H
                            obtain ⟨t303, A370, H⟩ := H
                            replace H : (some (t303 == 0)) = some r := H
                            have A37 := Aside0.mk A370
                            clear A370
                            obtain rfl := Option.some.inj H
                            go_wp2_with (first | (go_at_call 29; (with_reducible refine (portagelaw0_Num.calls t294 t302 _ A32.out).mono ?_); rintro e w' ⟨rfl, ⟨nd, rfl⟩⟩) | (go_at_call 29; (with_reducible refine (portagelaw0_Num.calls t297 t303 _ A37.out).mono ?_); rintro e w' ⟨rfl, ⟨nd, rfl⟩⟩))
                            go_ret
                            exact ⟨by first | rfl | (simp [errW_none, errW_some] <;> rfl) | (simp only [← hji25, ← hji28, ← hji35]; first | rfl | (simp [errW_none, errW_some] <;> rfl)) | (simp [*, errW_none, errW_some] <;> rfl), by repeat (first | (with_reducible first | exact HB.out | apply below_alloc | apply pw_below_drewN | apply below_drew1) | exact HB.out)⟩
                          · rw [if_neg c36] at H
                            exact absurd H (by simp)
                        · rw [if_neg c34] at H
                          exact absurd H (by simp)
                      · rw [if_neg c33] at H
                        exact absurd H (by simp)
                    · rw [if_neg c31] at H
                      exact absurd H (by simp)
                  · rw [if_neg c30] at H
                    exact absurd H (by simp)
                · rw [if_neg c29] at H
                  exact absurd H (by simp)
              · rw [if_neg c27] at H
                exact absurd H (by simp)
            · rw [if_neg c26] at H
              exact absurd H (by simp)
          · rw [if_neg c24] at H
            exact absurd H (by simp)
  · replace c3 := Bool.eq_false_iff.mpr c3
    subst c3
    have H1 : (none) = some r := by rw [if_neg (show ¬ (false = true) by decide)] at H; exact H
    clear H
    have H := H1
    clear H1
    exact absurd H (by simp)

/-- THE ONE PURE STATEMENT of portagelaw6_TableSteps: yours. -/
def portagelaw6_TableSteps.Pure : Prop := ∀ (a0 : Int), (Lit.int .i64 a0).wf = true → ∃ k, portagelaw6_TableSteps.f k a0 = some true
theorem portagelaw6_TableSteps.walk (P : portagelaw6_TableSteps.Pure) (a0 : Int) (w : World) (w0 : (Lit.int .i64 a0).wf = true) :
    Calls Try.prog 17 #[.int .i64 a0] w fun e w' => e = .returned (.bool true) ∧ Below w.heap.size w w' := by
  obtain ⟨k, h⟩ := P a0 w0
  refine (portagelaw6_TableSteps.calls k a0 true w h).mono ?_
  rintro e w' ⟨rfl, hd⟩
  exact ⟨rfl, hd⟩

end Go.Proofs.Ytbifignggnfodaa.T
