-- Written by a program of this session out of the translation (a changed copy of the kit's printer).
import Derived.Test.YtnjbbfcknijcnaaO0
import Derived.Test.YtnjbbfcknijcnaaO1
import Derived.Test.YtnjbbfcknijcnaaO2
import Derived.Test.YtnjbbfcknijcnaaO3
import Derived.Test.YtnjbbfcknijcnaaO4
import Derived.Test.YtnjbbfcknijcnaaO5
namespace Go.Proofs.Ytnjbbfcknijcnaa.O
open Go.RowKit Go.Proofs.YtnjbbfcknijcnaaW.PrintWords Go.Proofs.YtnjbbfcknijcnaaW.PrintLast Go.Proofs.YtnjbbfcknijcnaaW.PrintMore
attribute [local go_sem] max2_int min2_int max_two min_two max_three min_three max_four min_four   -- for this text's walks alone
set_option linter.unusedVariables false
set_option linter.unusedSimpArgs false

/-! ### portagelaw11_VectorOrders: function 12 -/
mutual
def portagelaw11_VectorOrders.j0 : Nat → List Int → List Int → Int → Int → Int → Int → Bool → Option (Bool)
  | 0, _, _, _, _, _, _, _ => none
  | k + 1, x7, x8, x10, x12, x14, x16, x69 => if x69 = true then (none) else (if x10 = 1 then (if x12 = 2 then (portagelaw11_VectorOrders.j1 k x7 x8 x10 x14 x16 true) else (if x10 = 2 then (if x12 = 1 then (portagelaw11_VectorOrders.j1 k x7 x8 x10 x14 x16 true) else (if x10 = x12 then (if x10 = 0 then (portagelaw11_VectorOrders.j1 k x7 x8 x10 x14 x16 true) else (portagelaw11_VectorOrders.j1 k x7 x8 x10 x14 x16 (x10 == 3))) else (portagelaw11_VectorOrders.j1 k x7 x8 x10 x14 x16 false))) else (if x10 = x12 then (if x10 = 0 then (portagelaw11_VectorOrders.j1 k x7 x8 x10 x14 x16 true) else (portagelaw11_VectorOrders.j1 k x7 x8 x10 x14 x16 (x10 == 3))) else (portagelaw11_VectorOrders.j1 k x7 x8 x10 x14 x16 false)))) else (if x10 = 2 then (if x12 = 1 then (portagelaw11_VectorOrders.j1 k x7 x8 x10 x14 x16 true) else (if x10 = x12 then (if x10 = 0 then (portagelaw11_VectorOrders.j1 k x7 x8 x10 x14 x16 true) else (portagelaw11_VectorOrders.j1 k x7 x8 x10 x14 x16 (x10 == 3))) else (portagelaw11_VectorOrders.j1 k x7 x8 x10 x14 x16 false))) else (if x10 = x12 then (if x10 = 0 then (portagelaw11_VectorOrders.j1 k x7 x8 x10 x14 x16 true) else (portagelaw11_VectorOrders.j1 k x7 x8 x10 x14 x16 (x10 == 3))) else (portagelaw11_VectorOrders.j1 k x7 x8 x10 x14 x16 false))))
def portagelaw11_VectorOrders.j1 : Nat → List Int → List Int → Int → Int → Int → Bool → Option (Bool)
  | 0, _, _, _, _, _, _ => none
  | k + 1, x7, x8, x10, x14, x16, x18 => if x10 = 1 then (if x14 = 1 then (portagelaw11_VectorOrders.j2 k x7 x8 x10 x16 x18 true) else (portagelaw11_VectorOrders.j2 k x7 x8 x10 x16 x18 (x14 == 0))) else (portagelaw11_VectorOrders.j2 k x7 x8 x10 x16 x18 false)
def portagelaw11_VectorOrders.j2 : Nat → List Int → List Int → Int → Int → Bool → Bool → Option (Bool)
  | 0, _, _, _, _, _, _ => none
  | k + 1, x7, x8, x10, x16, x18, x19 => if x18 = true then ((portagelaw0_SameInts.f k x7 x8).bind fun t217 => (if ((x10 == 0) == t217) = true then (if x19 = true then (some (x16 == 1)) else (some true)) else (none))) else (none)
end
def portagelaw11_VectorOrders.f (k : Nat) (l0 : List Int) (l1 : List Int) (l2 : List Int) : Option (Bool) := (portagelaw11_awake.f k).bind fun t195 => (if t195 = true then ((portagelaw11_four.f k l0).bind fun t196 => ((portagelaw11_four.f k l1).bind fun t199 => ((portagelaw11_four.f k l2).bind fun t202 => ((vector_Order.f k t196 t199).bind fun bt205 => ((vector_Order.f k t199 t196).bind fun bt207 => ((vector_Order.f k t199 t202).bind fun bt209 => ((vector_Order.f k t196 t202).bind fun bt211 => ((portagelaw0_Num.f bt205.2).bind fun t213 => (if t213 = 0 then ((portagelaw0_Num.f bt207.2).bind fun t214 => (if t214 = 0 then ((portagelaw0_Num.f bt209.2).bind fun t215 => (if t215 = 0 then ((portagelaw0_Num.f bt211.2).bind fun t216 => (portagelaw11_VectorOrders.j0 k t196 t199 bt205.1 bt207.1 bt209.1 bt211.1 (t216 != 0))) else (portagelaw11_VectorOrders.j0 k t196 t199 bt205.1 bt207.1 bt209.1 bt211.1 true))) else (portagelaw11_VectorOrders.j0 k t196 t199 bt205.1 bt207.1 bt209.1 bt211.1 true))) else (portagelaw11_VectorOrders.j0 k t196 t199 bt205.1 bt207.1 bt209.1 bt211.1 true)))))))))) else (none))
theorem portagelaw11_VectorOrders.mono_l : ∀ k, (∀ y0 y1 y2 y3 y4 y5 y6, LeO (portagelaw11_VectorOrders.j0 k y0 y1 y2 y3 y4 y5 y6) (portagelaw11_VectorOrders.j0 (k + 1) y0 y1 y2 y3 y4 y5 y6)) ∧ (∀ y0 y1 y2 y3 y4 y5, LeO (portagelaw11_VectorOrders.j1 k y0 y1 y2 y3 y4 y5) (portagelaw11_VectorOrders.j1 (k + 1) y0 y1 y2 y3 y4 y5)) ∧ (∀ y0 y1 y2 y3 y4 y5, LeO (portagelaw11_VectorOrders.j2 k y0 y1 y2 y3 y4 y5) (portagelaw11_VectorOrders.j2 (k + 1) y0 y1 y2 y3 y4 y5))
  | 0 => ⟨fun _ _ _ _ _ _ _ r h => by simp [portagelaw11_VectorOrders.j0] at h, fun _ _ _ _ _ _ r h => by simp [portagelaw11_VectorOrders.j1] at h, fun _ _ _ _ _ _ r h => by simp [portagelaw11_VectorOrders.j2] at h⟩
  | k + 1 => by
    obtain ⟨ih0, ih1, ih2⟩ := portagelaw11_VectorOrders.mono_l k
    refine ⟨?_, ?_, ?_⟩
    · intro y0 y1 y2 y3 y4 y5 y6
      unfold portagelaw11_VectorOrders.j0
      repeat' first
      | (with_reducible exact ih0 _ _ _ _ _ _ _)
      | (with_reducible exact ih1 _ _ _ _ _ _)
      | (with_reducible exact ih2 _ _ _ _ _ _)
      | (with_reducible exact portagelaw0_SameInts.mono _ _ _)
      | (with_reducible exact portagelaw11_awake.mono _)
      | (with_reducible exact portagelaw11_four.mono _ _)
      | (with_reducible exact vector_Order.mono _ _ _)
      | (with_reducible exact LeO.refl _)
      | (with_reducible exact LeO.none _)
      | (with_reducible refine LeO.ite ?_ ?_)
      | (with_reducible refine LeO.bind ?_ (fun _ => ?_))
      | exact ih0 _ _ _ _ _ _ _
      | exact ih1 _ _ _ _ _ _
      | exact ih2 _ _ _ _ _ _
      | exact portagelaw0_SameInts.mono _ _ _
      | exact portagelaw11_awake.mono _
      | exact portagelaw11_four.mono _ _
      | exact vector_Order.mono _ _ _
      | exact LeO.none _
      | refine LeO.ite ?_ ?_
      | refine LeO.bind ?_ (fun _ => ?_)
    · intro y0 y1 y2 y3 y4 y5
      unfold portagelaw11_VectorOrders.j1
      repeat' first
      | (with_reducible exact ih0 _ _ _ _ _ _ _)
      | (with_reducible exact ih1 _ _ _ _ _ _)
      | (with_reducible exact ih2 _ _ _ _ _ _)
      | (with_reducible exact portagelaw0_SameInts.mono _ _ _)
      | (with_reducible exact portagelaw11_awake.mono _)
      | (with_reducible exact portagelaw11_four.mono _ _)
      | (with_reducible exact vector_Order.mono _ _ _)
      | (with_reducible exact LeO.refl _)
      | (with_reducible exact LeO.none _)
      | (with_reducible refine LeO.ite ?_ ?_)
      | (with_reducible refine LeO.bind ?_ (fun _ => ?_))
      | exact ih0 _ _ _ _ _ _ _
      | exact ih1 _ _ _ _ _ _
      | exact ih2 _ _ _ _ _ _
      | exact portagelaw0_SameInts.mono _ _ _
      | exact portagelaw11_awake.mono _
      | exact portagelaw11_four.mono _ _
      | exact vector_Order.mono _ _ _
      | exact LeO.none _
      | refine LeO.ite ?_ ?_
      | refine LeO.bind ?_ (fun _ => ?_)
    · intro y0 y1 y2 y3 y4 y5
      unfold portagelaw11_VectorOrders.j2
      repeat' first
      | (with_reducible exact ih0 _ _ _ _ _ _ _)
      | (with_reducible exact ih1 _ _ _ _ _ _)
      | (with_reducible exact ih2 _ _ _ _ _ _)
      | (with_reducible exact portagelaw0_SameInts.mono _ _ _)
      | (with_reducible exact portagelaw11_awake.mono _)
      | (with_reducible exact portagelaw11_four.mono _ _)
      | (with_reducible exact vector_Order.mono _ _ _)
      | (with_reducible exact LeO.refl _)
      | (with_reducible exact LeO.none _)
      | (with_reducible refine LeO.ite ?_ ?_)
      | (with_reducible refine LeO.bind ?_ (fun _ => ?_))
      | exact ih0 _ _ _ _ _ _ _
      | exact ih1 _ _ _ _ _ _
      | exact ih2 _ _ _ _ _ _
      | exact portagelaw0_SameInts.mono _ _ _
      | exact portagelaw11_awake.mono _
      | exact portagelaw11_four.mono _ _
      | exact vector_Order.mono _ _ _
      | exact LeO.none _
      | refine LeO.ite ?_ ?_
      | refine LeO.bind ?_ (fun _ => ?_)
theorem portagelaw11_VectorOrders.mono : ∀ a0 a1 a2 k, LeO (portagelaw11_VectorOrders.f k a0 a1 a2) (portagelaw11_VectorOrders.f (k + 1) a0 a1 a2) := by
  intro a0 a1 a2 k
  obtain ⟨ih0, ih1, ih2⟩ := portagelaw11_VectorOrders.mono_l k
  unfold portagelaw11_VectorOrders.f
  repeat' first
      | (with_reducible exact ih0 _ _ _ _ _ _ _)
      | (with_reducible exact ih1 _ _ _ _ _ _)
      | (with_reducible exact ih2 _ _ _ _ _ _)
      | (with_reducible exact portagelaw0_SameInts.mono _ _ _)
      | (with_reducible exact portagelaw11_awake.mono _)
      | (with_reducible exact portagelaw11_four.mono _ _)
      | (with_reducible exact vector_Order.mono _ _ _)
      | (with_reducible exact LeO.refl _)
      | (with_reducible exact LeO.none _)
      | (with_reducible refine LeO.ite ?_ ?_)
      | (with_reducible refine LeO.bind ?_ (fun _ => ?_))
      | exact ih0 _ _ _ _ _ _ _
      | exact ih1 _ _ _ _ _ _
      | exact ih2 _ _ _ _ _ _
      | exact portagelaw0_SameInts.mono _ _ _
      | exact portagelaw11_awake.mono _
      | exact portagelaw11_four.mono _ _
      | exact vector_Order.mono _ _ _
      | exact LeO.none _
      | refine LeO.ite ?_ ?_
      | refine LeO.bind ?_ (fun _ => ?_)
set_option maxHeartbeats 8000000 in
set_option maxRecDepth 100000 in
theorem portagelaw11_VectorOrders.calls (k : Nat) (A0 : Option Addr) (c0 : Nat) (l0 : List Int) (A1 : Option Addr) (c1 : Nat) (l1 : List Int) (A2 : Option Addr) (c2 : Nat) (l2 : List Int) (r : Bool) (w : World) (hr0 : Kd.C (Kd.int .i64) w A0 l0.length l0) (hc0 : l0.length ≤ c0) (hr1 : Kd.C (Kd.int .i64) w A1 l1.length l1) (hc1 : l1.length ≤ c1) (hr2 : Kd.C (Kd.int .i64) w A2 l2.length l2) (hc2 : l2.length ≤ c2) (h : portagelaw11_VectorOrders.f k l0 l1 l2 = some r) :
    Calls Try.prog 12 #[.slice A0 l0.length c0, .slice A1 l1.length c1, .slice A2 l2.length c2] w fun e w' => e = .returned (.bool r) ∧ Below w.heap.size w w' := by
  have HR0 := Aside0.mk hr0
  have HC0 := Aside0.mk hc0
  clear hr0 hc0
  have HR1 := Aside0.mk hr1
  have HC1 := Aside0.mk hc1
  clear hr1 hc1
  have HR2 := Aside0.mk hr2
  have HC2 := Aside0.mk hc2
  clear hr2 hc2
  have HB := Aside0.mk (Below.refl w.heap.size w)
  have H : ((portagelaw11_awake.f k).bind fun t195 => (if t195 = true then ((portagelaw11_four.f k l0).bind fun t196 => ((portagelaw11_four.f k l1).bind fun t199 => ((portagelaw11_four.f k l2).bind fun t202 => ((vector_Order.f k t196 t199).bind fun bt205 => ((vector_Order.f k t199 t196).bind fun bt207 => ((vector_Order.f k t199 t202).bind fun bt209 => ((vector_Order.f k t196 t202).bind fun bt211 => ((portagelaw0_Num.f bt205.2).bind fun t213 => (if t213 = 0 then ((portagelaw0_Num.f bt207.2).bind fun t214 => (if t214 = 0 then ((portagelaw0_Num.f bt209.2).bind fun t215 => (if t215 = 0 then ((portagelaw0_Num.f bt211.2).bind fun t216 => (portagelaw11_VectorOrders.j0 k t196 t199 bt205.1 bt207.1 bt209.1 bt211.1 (t216 != 0))) else (portagelaw11_VectorOrders.j0 k t196 t199 bt205.1 bt207.1 bt209.1 bt211.1 true))) else (portagelaw11_VectorOrders.j0 k t196 t199 bt205.1 bt207.1 bt209.1 bt211.1 true))) else (portagelaw11_VectorOrders.j0 k t196 t199 bt205.1 bt207.1 bt209.1 bt211.1 true)))))))))) else (none))) = some r := h
  clear h
  replace H := Option.bind_eq_some_iff.mp H
  obtain ⟨t195, A40, H⟩ := H
  replace H : (if t195 = true then ((portagelaw11_four.f k l0).bind fun t196 => ((portagelaw11_four.f k l1).bind fun t199 => ((portagelaw11_four.f k l2).bind fun t202 => ((vector_Order.f k t196 t199).bind fun bt205 => ((vector_Order.f k t199 t196).bind fun bt207 => ((vector_Order.f k t199 t202).bind fun bt209 => ((vector_Order.f k t196 t202).bind fun bt211 => ((portagelaw0_Num.f bt205.2).bind fun t213 => (if t213 = 0 then ((portagelaw0_Num.f bt207.2).bind fun t214 => (if t214 = 0 then ((portagelaw0_Num.f bt209.2).bind fun t215 => (if t215 = 0 then ((portagelaw0_Num.f bt211.2).bind fun t216 => (portagelaw11_VectorOrders.j0 k t196 t199 bt205.1 bt207.1 bt209.1 bt211.1 (t216 != 0))) else (portagelaw11_VectorOrders.j0 k t196 t199 bt205.1 bt207.1 bt209.1 bt211.1 true))) else (portagelaw11_VectorOrders.j0 k t196 t199 bt205.1 bt207.1 bt209.1 bt211.1 true))) else (portagelaw11_VectorOrders.j0 k t196 t199 bt205.1 bt207.1 bt209.1 bt211.1 true)))))))))) else (none)) = some r := H
  have A4 := Aside0.mk A40
  clear A40
  by_cases c5 : t195 = true
  · subst c5
    have H1 : ((portagelaw11_four.f k l0).bind fun t196 => ((portagelaw11_four.f k l1).bind fun t199 => ((portagelaw11_four.f k l2).bind fun t202 => ((vector_Order.f k t196 t199).bind fun bt205 => ((vector_Order.f k t199 t196).bind fun bt207 => ((vector_Order.f k t199 t202).bind fun bt209 => ((vector_Order.f k t196 t202).bind fun bt211 => ((portagelaw0_Num.f bt205.2).bind fun t213 => (if t213 = 0 then ((portagelaw0_Num.f bt207.2).bind fun t214 => (if t214 = 0 then ((portagelaw0_Num.f bt209.2).bind fun t215 => (if t215 = 0 then ((portagelaw0_Num.f bt211.2).bind fun t216 => (portagelaw11_VectorOrders.j0 k t196 t199 bt205.1 bt207.1 bt209.1 bt211.1 (t216 != 0))) else (portagelaw11_VectorOrders.j0 k t196 t199 bt205.1 bt207.1 bt209.1 bt211.1 true))) else (portagelaw11_VectorOrders.j0 k t196 t199 bt205.1 bt207.1 bt209.1 bt211.1 true))) else (portagelaw11_VectorOrders.j0 k t196 t199 bt205.1 bt207.1 bt209.1 bt211.1 true)))))))))) = some r := by rw [if_pos rfl] at H; exact H
    clear H
    have H := H1
    clear H1
    replace H := Option.bind_eq_some_iff.mp H
    obtain ⟨t196, A60, H⟩ := H
    replace H : ((portagelaw11_four.f k l1).bind fun t199 => ((portagelaw11_four.f k l2).bind fun t202 => ((vector_Order.f k t196 t199).bind fun bt205 => ((vector_Order.f k t199 t196).bind fun bt207 => ((vector_Order.f k t199 t202).bind fun bt209 => ((vector_Order.f k t196 t202).bind fun bt211 => ((portagelaw0_Num.f bt205.2).bind fun t213 => (if t213 = 0 then ((portagelaw0_Num.f bt207.2).bind fun t214 => (if t214 = 0 then ((portagelaw0_Num.f bt209.2).bind fun t215 => (if t215 = 0 then ((portagelaw0_Num.f bt211.2).bind fun t216 => (portagelaw11_VectorOrders.j0 k t196 t199 bt205.1 bt207.1 bt209.1 bt211.1 (t216 != 0))) else (portagelaw11_VectorOrders.j0 k t196 t199 bt205.1 bt207.1 bt209.1 bt211.1 true))) else (portagelaw11_VectorOrders.j0 k t196 t199 bt205.1 bt207.1 bt209.1 bt211.1 true))) else (portagelaw11_VectorOrders.j0 k t196 t199 bt205.1 bt207.1 bt209.1 bt211.1 true))))))))) = some r := H
    have A6 := Aside0.mk A60
    clear A60
    replace H := Option.bind_eq_some_iff.mp H
    obtain ⟨t199, A70, H⟩ := H
    replace H : ((portagelaw11_four.f k l2).bind fun t202 => ((vector_Order.f k t196 t199).bind fun bt205 => ((vector_Order.f k t199 t196).bind fun bt207 => ((vector_Order.f k t199 t202).bind fun bt209 => ((vector_Order.f k t196 t202).bind fun bt211 => ((portagelaw0_Num.f bt205.2).bind fun t213 => (if t213 = 0 then ((portagelaw0_Num.f bt207.2).bind fun t214 => (if t214 = 0 then ((portagelaw0_Num.f bt209.2).bind fun t215 => (if t215 = 0 then ((portagelaw0_Num.f bt211.2).bind fun t216 => (portagelaw11_VectorOrders.j0 k t196 t199 bt205.1 bt207.1 bt209.1 bt211.1 (t216 != 0))) else (portagelaw11_VectorOrders.j0 k t196 t199 bt205.1 bt207.1 bt209.1 bt211.1 true))) else (portagelaw11_VectorOrders.j0 k t196 t199 bt205.1 bt207.1 bt209.1 bt211.1 true))) else (portagelaw11_VectorOrders.j0 k t196 t199 bt205.1 bt207.1 bt209.1 bt211.1 true)))))))) = some r := H
    have A7 := Aside0.mk A70
    clear A70
    replace H := Option.bind_eq_some_iff.mp H
    obtain ⟨t202, A80, H⟩ := H
    replace H : ((vector_Order.f k t196 t199).bind fun bt205 => ((vector_Order.f k t199 t196).bind fun bt207 => ((vector_Order.f k t199 t202).bind fun bt209 => ((vector_Order.f k t196 t202).bind fun bt211 => ((portagelaw0_Num.f bt205.2).bind fun t213 => (if t213 = 0 then ((portagelaw0_Num.f bt207.2).bind fun t214 => (if t214 = 0 then ((portagelaw0_Num.f bt209.2).bind fun t215 => (if t215 = 0 then ((portagelaw0_Num.f bt211.2).bind fun t216 => (portagelaw11_VectorOrders.j0 k t196 t199 bt205.1 bt207.1 bt209.1 bt211.1 (t216 != 0))) else (portagelaw11_VectorOrders.j0 k t196 t199 bt205.1 bt207.1 bt209.1 bt211.1 true))) else (portagelaw11_VectorOrders.j0 k t196 t199 bt205.1 bt207.1 bt209.1 bt211.1 true))) else (portagelaw11_VectorOrders.j0 k t196 t199 bt205.1 bt207.1 bt209.1 bt211.1 true))))))) = some r := H
    have A8 := Aside0.mk A80
    clear A80
    replace H := Option.bind_eq_some_iff.mp H
    obtain ⟨⟨t205, t206⟩, A90, H⟩ := H
    replace H : ((vector_Order.f k t199 t196).bind fun bt207 => ((vector_Order.f k t199 t202).bind fun bt209 => ((vector_Order.f k t196 t202).bind fun bt211 => ((portagelaw0_Num.f t206).bind fun t213 => (if t213 = 0 then ((portagelaw0_Num.f bt207.2).bind fun t214 => (if t214 = 0 then ((portagelaw0_Num.f bt209.2).bind fun t215 => (if t215 = 0 then ((portagelaw0_Num.f bt211.2).bind fun t216 => (portagelaw11_VectorOrders.j0 k t196 t199 t205 bt207.1 bt209.1 bt211.1 (t216 != 0))) else (portagelaw11_VectorOrders.j0 k t196 t199 t205 bt207.1 bt209.1 bt211.1 true))) else (portagelaw11_VectorOrders.j0 k t196 t199 t205 bt207.1 bt209.1 bt211.1 true))) else (portagelaw11_VectorOrders.j0 k t196 t199 t205 bt207.1 bt209.1 bt211.1 true)))))) = some r := H
    have A9 := Aside0.mk A90
    clear A90
    replace H := Option.bind_eq_some_iff.mp H
    obtain ⟨⟨t207, t208⟩, A100, H⟩ := H
    replace H : ((vector_Order.f k t199 t202).bind fun bt209 => ((vector_Order.f k t196 t202).bind fun bt211 => ((portagelaw0_Num.f t206).bind fun t213 => (if t213 = 0 then ((portagelaw0_Num.f t208).bind fun t214 => (if t214 = 0 then ((portagelaw0_Num.f bt209.2).bind fun t215 => (if t215 = 0 then ((portagelaw0_Num.f bt211.2).bind fun t216 => (portagelaw11_VectorOrders.j0 k t196 t199 t205 t207 bt209.1 bt211.1 (t216 != 0))) else (portagelaw11_VectorOrders.j0 k t196 t199 t205 t207 bt209.1 bt211.1 true))) else (portagelaw11_VectorOrders.j0 k t196 t199 t205 t207 bt209.1 bt211.1 true))) else (portagelaw11_VectorOrders.j0 k t196 t199 t205 t207 bt209.1 bt211.1 true))))) = some r := H
    have A10 := Aside0.mk A100
    clear A100
    replace H := Option.bind_eq_some_iff.mp H
    obtain ⟨⟨t209, t210⟩, A110, H⟩ := H
    replace H : ((vector_Order.f k t196 t202).bind fun bt211 => ((portagelaw0_Num.f t206).bind fun t213 => (if t213 = 0 then ((portagelaw0_Num.f t208).bind fun t214 => (if t214 = 0 then ((portagelaw0_Num.f t210).bind fun t215 => (if t215 = 0 then ((portagelaw0_Num.f bt211.2).bind fun t216 => (portagelaw11_VectorOrders.j0 k t196 t199 t205 t207 t209 bt211.1 (t216 != 0))) else (portagelaw11_VectorOrders.j0 k t196 t199 t205 t207 t209 bt211.1 true))) else (portagelaw11_VectorOrders.j0 k t196 t199 t205 t207 t209 bt211.1 true))) else (portagelaw11_VectorOrders.j0 k t196 t199 t205 t207 t209 bt211.1 true)))) = some r := H
    have A11 := Aside0.mk A110
    clear A110
    replace H := Option.bind_eq_some_iff.mp H
    obtain ⟨⟨t211, t212⟩, A120, H⟩ := H
    replace H : ((portagelaw0_Num.f t206).bind fun t213 => (if t213 = 0 then ((portagelaw0_Num.f t208).bind fun t214 => (if t214 = 0 then ((portagelaw0_Num.f t210).bind fun t215 => (if t215 = 0 then ((portagelaw0_Num.f t212).bind fun t216 => (portagelaw11_VectorOrders.j0 k t196 t199 t205 t207 t209 t211 (t216 != 0))) else (portagelaw11_VectorOrders.j0 k t196 t199 t205 t207 t209 t211 true))) else (portagelaw11_VectorOrders.j0 k t196 t199 t205 t207 t209 t211 true))) else (portagelaw11_VectorOrders.j0 k t196 t199 t205 t207 t209 t211 true))) = some r := H
    have A12 := Aside0.mk A120
    clear A120
    have HC13 := Aside0.mk H
    clear H
    go_enter Try.func12, Try.ntmps12
    go_upto_region 8 with (first | ((with_reducible refine gate_callee (f := 47) rfl ?_); refine goesL_ (some 20) rfl rfl Try.func47 (by kernel_rfl) rfl #[] rfl (by (try simp only [List.map_toArray, List.map_cons, List.map_nil]); first | done | rfl | (simp only [List.length_drop, List.length_take]; rfl)) ?_; (with_reducible refine (portagelaw11_awake.calls k  true _ A4.out).mono ?_); rintro e w14 ⟨rfl, hb⟩; refine ⟨_, rfl, ?_⟩; have n0_ := Aside0.mk (below_step (by repeat (first | (with_reducible first | exact HB.out | apply below_alloc | apply pw_below_drewN | apply below_drew1) | exact HB.out)) hb); clear HB; have HB := n0_; clear n0_; (try clear hb); (try clear hb2); (try clear hk); (try clear hi)) | ((with_reducible refine gate_callee (f := 48) rfl ?_); refine goesL_ (some 23) rfl rfl Try.func48 (by kernel_rfl) rfl #[.slice A0 l0.length c0] rfl (by (try simp only [List.map_toArray, List.map_cons, List.map_nil]); first | done | rfl | (simp only [List.length_drop, List.length_take]; rfl)) ?_; (with_reducible refine (portagelaw11_four.calls k _ _ l0 t196 _ ?side1 ?side2 A6.out).mono ?_); (case side1 => repeat (first | exact (Kd.C_below HR0.out HB.out) | (with_reducible refine Kd.C_alloc ?_ _) | (with_reducible refine Kd.C_drewN ?_ _) | (with_reducible refine Kd.C_drew ?_))); (case side2 => exact HC0.out); rintro e w15 ⟨v197, rfl, ho0, hb⟩; refine ⟨_, rfl, ?_⟩; have n0_ := Aside0.mk (Kd.R_lower ho0 (below_size (by repeat (first | (with_reducible first | exact HB.out | apply below_alloc | apply pw_below_drewN | apply below_drew1) | exact HB.out)))); have n1_ := Aside0.mk (below_step (by repeat (first | (with_reducible first | exact HB.out | apply below_alloc | apply pw_below_drewN | apply below_drew1) | exact HB.out)) hb); clear HB; have HO198 := n0_; have HB := n1_; clear n0_ n1_; (try clear hb); (try clear hb2); (try clear hk); (try clear hi); (try clear ho0)) | ((with_reducible refine gate_callee (f := 48) rfl ?_); refine goesL_ (some 25) rfl rfl Try.func48 (by kernel_rfl) rfl #[.slice A1 l1.length c1] rfl (by (try simp only [List.map_toArray, List.map_cons, List.map_nil]); first | done | rfl | (simp only [List.length_drop, List.length_take]; rfl)) ?_; (with_reducible refine (portagelaw11_four.calls k _ _ l1 t199 _ ?side1 ?side2 A7.out).mono ?_); (case side1 => repeat (first | exact (Kd.C_below HR1.out HB.out) | (with_reducible refine Kd.C_alloc ?_ _) | (with_reducible refine Kd.C_drewN ?_ _) | (with_reducible refine Kd.C_drew ?_))); (case side2 => exact HC1.out); rintro e w16 ⟨v200, rfl, ho0, hb⟩; refine ⟨_, rfl, ?_⟩; have n0_ := Aside0.mk (Kd.R_elder' (by (with_reducible repeat (first | apply Kd.R_alloc | apply Kd.R_drewN | apply Kd.R_drew)); exact HO198.out) (Kd.R_base ho0) hb); have n1_ := Aside0.mk (Kd.R_lower (Kd.R_new' ho0 (Kd.R_lt (by (with_reducible repeat (first | apply Kd.R_alloc | apply Kd.R_drewN | apply Kd.R_drew)); exact HO198.out))) (below_size (by repeat (first | (with_reducible first | exact HB.out | apply below_alloc | apply pw_below_drewN | apply below_drew1) | exact HB.out)))); have n2_ := Aside0.mk (below_step (by repeat (first | (with_reducible first | exact HB.out | apply below_alloc | apply pw_below_drewN | apply below_drew1) | exact HB.out)) hb); clear HO198; clear HB; have HO198 := n0_; have HO201 := n1_; have HB := n2_; clear n0_ n1_ n2_; (try clear hb); (try clear hb2); (try clear hk); (try clear hi); (try clear ho0)) | ((with_reducible refine gate_callee (f := 48) rfl ?_); refine goesL_ (some 27) rfl rfl Try.func48 (by kernel_rfl) rfl #[.slice A2 l2.length c2] rfl (by (try simp only [List.map_toArray, List.map_cons, List.map_nil]); first | done | rfl | (simp only [List.length_drop, List.length_take]; rfl)) ?_; (with_reducible refine (portagelaw11_four.calls k _ _ l2 t202 _ ?side1 ?side2 A8.out).mono ?_); (case side1 => repeat (first | exact (Kd.C_below HR2.out HB.out) | (with_reducible refine Kd.C_alloc ?_ _) | (with_reducible refine Kd.C_drewN ?_ _) | (with_reducible refine Kd.C_drew ?_))); (case side2 => exact HC2.out); rintro e w17 ⟨v203, rfl, ho0, hb⟩; refine ⟨_, rfl, ?_⟩; have n0_ := Aside0.mk (Kd.R_elder' (by (with_reducible repeat (first | apply Kd.R_alloc | apply Kd.R_drewN | apply Kd.R_drew)); exact HO198.out) (Kd.R_base ho0) hb); have n1_ := Aside0.mk (Kd.R_elder' (by (with_reducible repeat (first | apply Kd.R_alloc | apply Kd.R_drewN | apply Kd.R_drew)); exact HO201.out) (Kd.R_base ho0) hb); have n2_ := Aside0.mk (Kd.R_lower (Kd.R_new' (Kd.R_new' ho0 (Kd.R_lt (by (with_reducible repeat (first | apply Kd.R_alloc | apply Kd.R_drewN | apply Kd.R_drew)); exact HO198.out))) (Kd.R_lt (by (with_reducible repeat (first | apply Kd.R_alloc | apply Kd.R_drewN | apply Kd.R_drew)); exact HO201.out))) (below_size (by repeat (first | (with_reducible first | exact HB.out | apply below_alloc | apply pw_below_drewN | apply below_drew1) | exact HB.out)))); have n3_ := Aside0.mk (below_step (by repeat (first | (with_reducible first | exact HB.out | apply below_alloc | apply pw_below_drewN | apply below_drew1) | exact HB.out)) hb); clear HO198; clear HO201; clear HB; have HO198 := n0_; have HO201 := n1_; have HO204 := n2_; have HB := n3_; clear n0_ n1_ n2_ n3_; (try clear hb); (try clear hb2); (try clear hk); (try clear hi); (try clear ho0); obtain ⟨Ao18, co18, eo18⟩ := Kd.R_slice HO198.out; subst eo18; obtain ⟨Ao19, co19, eo19⟩ := Kd.R_slice HO201.out; subst eo19) | ((with_reducible refine gate_callee (f := 36) rfl ?_); refine goesL_ (some 31) rfl rfl Try.func36 (by kernel_rfl) rfl #[.slice Ao18 t196.length co18, .slice Ao19 t199.length co19] rfl (by (try simp only [List.map_toArray, List.map_cons, List.map_nil]); first | done | rfl | (simp only [List.length_drop, List.length_take]; rfl)) ?_; (with_reducible refine (vector_Order.calls k _ _ t196 _ _ t199 t205 t206 _ ?side1 ?side2 ?side3 ?side4 A9.out).mono ?_); (case side1 => repeat (first | exact (Kd.R_reads' HO198.out).2.2 | (with_reducible refine Kd.C_alloc ?_ _) | (with_reducible refine Kd.C_drewN ?_ _) | (with_reducible refine Kd.C_drew ?_))); (case side2 => exact (Kd.R_reads' HO198.out).2.1); (case side3 => repeat (first | exact (Kd.R_reads' HO201.out).2.2 | (with_reducible refine Kd.C_alloc ?_ _) | (with_reducible refine Kd.C_drewN ?_ _) | (with_reducible refine Kd.C_drew ?_))); (case side4 => exact (Kd.R_reads' HO201.out).2.1); rintro e w' ⟨rfl, ⟨nd, rfl⟩⟩; refine ⟨_, rfl, ?_⟩) | ((with_reducible refine gate_callee (f := 36) rfl ?_); refine goesL_ (some 37) rfl rfl Try.func36 (by kernel_rfl) rfl #[.slice Ao19 t199.length co19, .slice Ao18 t196.length co18] rfl (by (try simp only [List.map_toArray, List.map_cons, List.map_nil]); first | done | rfl | (simp only [List.length_drop, List.length_take]; rfl)) ?_; (with_reducible refine (vector_Order.calls k _ _ t199 _ _ t196 t207 t208 _ ?side1 ?side2 ?side3 ?side4 A10.out).mono ?_); (case side1 => repeat (first | exact (Kd.R_reads' HO201.out).2.2 | (with_reducible refine Kd.C_alloc ?_ _) | (with_reducible refine Kd.C_drewN ?_ _) | (with_reducible refine Kd.C_drew ?_))); (case side2 => exact (Kd.R_reads' HO201.out).2.1); (case side3 => repeat (first | exact (Kd.R_reads' HO198.out).2.2 | (with_reducible refine Kd.C_alloc ?_ _) | (with_reducible refine Kd.C_drewN ?_ _) | (with_reducible refine Kd.C_drew ?_))); (case side4 => exact (Kd.R_reads' HO198.out).2.1); rintro e w' ⟨rfl, ⟨nd, rfl⟩⟩; refine ⟨_, rfl, ?_⟩; obtain ⟨Ao20, co20, eo20⟩ := Kd.R_slice HO204.out; subst eo20) | ((with_reducible refine gate_callee (f := 36) rfl ?_); refine goesL_ (some 43) rfl rfl Try.func36 (by kernel_rfl) rfl #[.slice Ao19 t199.length co19, .slice Ao20 t202.length co20] rfl (by (try simp only [List.map_toArray, List.map_cons, List.map_nil]); first | done | rfl | (simp only [List.length_drop, List.length_take]; rfl)) ?_; (with_reducible refine (vector_Order.calls k _ _ t199 _ _ t202 t209 t210 _ ?side1 ?side2 ?side3 ?side4 A11.out).mono ?_); (case side1 => repeat (first | exact (Kd.R_reads' HO201.out).2.2 | (with_reducible refine Kd.C_alloc ?_ _) | (with_reducible refine Kd.C_drewN ?_ _) | (with_reducible refine Kd.C_drew ?_))); (case side2 => exact (Kd.R_reads' HO201.out).2.1); (case side3 => repeat (first | exact (Kd.R_reads' HO204.out).2.2 | (with_reducible refine Kd.C_alloc ?_ _) | (with_reducible refine Kd.C_drewN ?_ _) | (with_reducible refine Kd.C_drew ?_))); (case side4 => exact (Kd.R_reads' HO204.out).2.1); rintro e w' ⟨rfl, ⟨nd, rfl⟩⟩; refine ⟨_, rfl, ?_⟩) | ((with_reducible refine gate_callee (f := 36) rfl ?_); refine goesL_ (some 49) rfl rfl Try.func36 (by kernel_rfl) rfl #[.slice Ao18 t196.length co18, .slice Ao20 t202.length co20] rfl (by (try simp only [List.map_toArray, List.map_cons, List.map_nil]); first | done | rfl | (simp only [List.length_drop, List.length_take]; rfl)) ?_; (with_reducible refine (vector_Order.calls k _ _ t196 _ _ t202 t211 t212 _ ?side1 ?side2 ?side3 ?side4 A12.out).mono ?_); (case side1 => repeat (first | exact (Kd.R_reads' HO198.out).2.2 | (with_reducible refine Kd.C_alloc ?_ _) | (with_reducible refine Kd.C_drewN ?_ _) | (with_reducible refine Kd.C_drew ?_))); (case side2 => exact (Kd.R_reads' HO198.out).2.1); (case side3 => repeat (first | exact (Kd.R_reads' HO204.out).2.2 | (with_reducible refine Kd.C_alloc ?_ _) | (with_reducible refine Kd.C_drewN ?_ _) | (with_reducible refine Kd.C_drew ?_))); (case side4 => exact (Kd.R_reads' HO204.out).2.1); rintro e w' ⟨rfl, ⟨nd, rfl⟩⟩; refine ⟨_, rfl, ?_⟩))
    (try simp only [Act.put, List.setIfInBounds_toArray, List.set_cons_zero, List.set_cons_succ])
    go_cut [69] (fun v69 wc => ∃ (kq : Nat) (x69_12 : Bool), v69 = .bool x69_12 ∧ Aside0 (portagelaw11_VectorOrders.j0 kq t196 t199 t205 t207 t209 t211 x69_12 = some r) ∧ Aside0 (kq ≤ k) ∧ Aside0 (Kd.R (Kd.int .i64) 3 wc w.heap.size (fun k_ => some k_ ≠ ((.slice Ao19 t199.length co19) : Value).ownBlock) (.slice Ao18 t196.length co18) t196) ∧ Aside0 (Kd.R (Kd.int .i64) 3 wc w.heap.size (fun k_ => some k_ ≠ ((.slice Ao18 t196.length co18) : Value).ownBlock) (.slice Ao19 t199.length co19) t199) ∧ Aside0 (Below w.heap.size w wc))
    case first =>
      have H := HC13.out
      clear HC13
      replace H := Option.bind_eq_some_iff.mp H
      obtain ⟨t213, A210, H⟩ := H
      replace H : (if t213 = 0 then ((portagelaw0_Num.f t208).bind fun t214 => (if t214 = 0 then ((portagelaw0_Num.f t210).bind fun t215 => (if t215 = 0 then ((portagelaw0_Num.f t212).bind fun t216 => (portagelaw11_VectorOrders.j0 k t196 t199 t205 t207 t209 t211 (t216 != 0))) else (portagelaw11_VectorOrders.j0 k t196 t199 t205 t207 t209 t211 true))) else (portagelaw11_VectorOrders.j0 k t196 t199 t205 t207 t209 t211 true))) else (portagelaw11_VectorOrders.j0 k t196 t199 t205 t207 t209 t211 true)) = some r := H
      have A21 := Aside0.mk A210
      clear A210
      by_cases c22 : t213 = 0
      · rw [if_pos c22] at H
        have c22b0 : (t213 == 0) = true := beq_iff_eq.mpr c22
        have c22b1 : (t213 != 0) = false := bne_eq_false_iff_eq.mpr c22
        clear c22
        (first | rw [c22b0] | (simp only [i64_w, i32_w]; rw [c22b0]) | skip)
        replace H := Option.bind_eq_some_iff.mp H
        obtain ⟨t214, A230, H⟩ := H
        replace H : (if t214 = 0 then ((portagelaw0_Num.f t210).bind fun t215 => (if t215 = 0 then ((portagelaw0_Num.f t212).bind fun t216 => (portagelaw11_VectorOrders.j0 k t196 t199 t205 t207 t209 t211 (t216 != 0))) else (portagelaw11_VectorOrders.j0 k t196 t199 t205 t207 t209 t211 true))) else (portagelaw11_VectorOrders.j0 k t196 t199 t205 t207 t209 t211 true)) = some r := H
        have A23 := Aside0.mk A230
        clear A230
        by_cases c24 : t214 = 0
        · rw [if_pos c24] at H
          have c24b0 : (t214 == 0) = true := beq_iff_eq.mpr c24
          have c24b1 : (t214 != 0) = false := bne_eq_false_iff_eq.mpr c24
          clear c24
          replace H := Option.bind_eq_some_iff.mp H
          obtain ⟨t215, A250, H⟩ := H
          replace H : (if t215 = 0 then ((portagelaw0_Num.f t212).bind fun t216 => (portagelaw11_VectorOrders.j0 k t196 t199 t205 t207 t209 t211 (t216 != 0))) else (portagelaw11_VectorOrders.j0 k t196 t199 t205 t207 t209 t211 true)) = some r := H
          have A25 := Aside0.mk A250
          clear A250
          by_cases c26 : t215 = 0
          · rw [if_pos c26] at H
            have c26b0 : (t215 == 0) = true := beq_iff_eq.mpr c26
            have c26b1 : (t215 != 0) = false := bne_eq_false_iff_eq.mpr c26
            clear c26
            replace H := Option.bind_eq_some_iff.mp H
            obtain ⟨t216, A270, H⟩ := H
            replace H : (portagelaw11_VectorOrders.j0 k t196 t199 t205 t207 t209 t211 (t216 != 0)) = some r := H
            have A27 := Aside0.mk A270
            clear A270
            have H' := Aside0.mk H
            clear H
            go_wp2_with (first | ((with_reducible refine gate_callee (f := 34) rfl ?_); refine goesL_ (some 53) rfl rfl Try.func34 (by kernel_rfl) rfl #[.int .i64 t206] rfl (by (try simp only [List.map_toArray, List.map_cons, List.map_nil]); first | done | rfl | (simp only [List.length_drop, List.length_take]; rfl)) ?_; (with_reducible refine (portagelaw0_Num.calls t206 t213 _ A21.out).mono ?_); rintro e w' ⟨rfl, ⟨nd, rfl⟩⟩; refine ⟨_, rfl, ?_⟩) | (go_at_call 34; (with_reducible refine (portagelaw0_Num.calls t208 t214 _ A23.out).mono ?_); rintro e w' ⟨rfl, ⟨nd, rfl⟩⟩) | (go_at_call 34; (with_reducible refine (portagelaw0_Num.calls t210 t215 _ A25.out).mono ?_); rintro e w' ⟨rfl, ⟨nd, rfl⟩⟩) | (go_at_call 34; (with_reducible refine (portagelaw0_Num.calls t212 t216 _ A27.out).mono ?_); rintro e w' ⟨rfl, ⟨nd, rfl⟩⟩))
            go_meet
            case rel => exact ⟨_, ((t216 != 0)), (by first | rfl | (simp; done) | (simp [*]; done)), H', ⟨by first | omega | exact Nat.le_refl _⟩, ⟨by (with_reducible repeat (first | apply Kd.R_alloc | apply Kd.R_drewN | apply Kd.R_drew)); exact Kd.R_mono HO198.out (fun _ hk => hk.1.2)⟩, ⟨by (with_reducible repeat (first | apply Kd.R_alloc | apply Kd.R_drewN | apply Kd.R_drew)); exact Kd.R_mono HO201.out (fun _ hk => hk.1.2)⟩, ⟨by repeat (first | (with_reducible first | exact HB.out | apply below_alloc | apply pw_below_drewN | apply below_drew1) | exact HB.out)⟩⟩
          · rw [if_neg c26] at H
            have c26b0 : (t215 == 0) = false := beq_eq_false_iff_ne.mpr c26
            have c26b1 : (t215 != 0) = true := bne_iff_ne.mpr c26
            have H' := Aside0.mk H
            clear H
            go_wp2_with (first | ((with_reducible refine gate_callee (f := 34) rfl ?_); refine goesL_ (some 53) rfl rfl Try.func34 (by kernel_rfl) rfl #[.int .i64 t206] rfl (by (try simp only [List.map_toArray, List.map_cons, List.map_nil]); first | done | rfl | (simp only [List.length_drop, List.length_take]; rfl)) ?_; (with_reducible refine (portagelaw0_Num.calls t206 t213 _ A21.out).mono ?_); rintro e w' ⟨rfl, ⟨nd, rfl⟩⟩; refine ⟨_, rfl, ?_⟩) | (go_at_call 34; (with_reducible refine (portagelaw0_Num.calls t208 t214 _ A23.out).mono ?_); rintro e w' ⟨rfl, ⟨nd, rfl⟩⟩) | (go_at_call 34; (with_reducible refine (portagelaw0_Num.calls t210 t215 _ A25.out).mono ?_); rintro e w' ⟨rfl, ⟨nd, rfl⟩⟩))
            go_meet
            case rel => exact ⟨_, (true), (by first | rfl | (simp; done) | (simp [*]; done)), H', ⟨by first | omega | exact Nat.le_refl _⟩, ⟨by (with_reducible repeat (first | apply Kd.R_alloc | apply Kd.R_drewN | apply Kd.R_drew)); exact Kd.R_mono HO198.out (fun _ hk => hk.1.2)⟩, ⟨by (with_reducible repeat (first | apply Kd.R_alloc | apply Kd.R_drewN | apply Kd.R_drew)); exact Kd.R_mono HO201.out (fun _ hk => hk.1.2)⟩, ⟨by repeat (first | (with_reducible first | exact HB.out | apply below_alloc | apply pw_below_drewN | apply below_drew1) | exact HB.out)⟩⟩
        · rw [if_neg c24] at H
          have c24b0 : (t214 == 0) = false := beq_eq_false_iff_ne.mpr c24
          have c24b1 : (t214 != 0) = true := bne_iff_ne.mpr c24
          have H' := Aside0.mk H
          clear H
          go_wp2_with (first | ((with_reducible refine gate_callee (f := 34) rfl ?_); refine goesL_ (some 53) rfl rfl Try.func34 (by kernel_rfl) rfl #[.int .i64 t206] rfl (by (try simp only [List.map_toArray, List.map_cons, List.map_nil]); first | done | rfl | (simp only [List.length_drop, List.length_take]; rfl)) ?_; (with_reducible refine (portagelaw0_Num.calls t206 t213 _ A21.out).mono ?_); rintro e w' ⟨rfl, ⟨nd, rfl⟩⟩; refine ⟨_, rfl, ?_⟩) | (go_at_call 34; (with_reducible refine (portagelaw0_Num.calls t208 t214 _ A23.out).mono ?_); rintro e w' ⟨rfl, ⟨nd, rfl⟩⟩))
          go_meet
          case rel => exact ⟨_, (true), (by first | rfl | (simp; done) | (simp [*]; done)), H', ⟨by first | omega | exact Nat.le_refl _⟩, ⟨by (with_reducible repeat (first | apply Kd.R_alloc | apply Kd.R_drewN | apply Kd.R_drew)); exact Kd.R_mono HO198.out (fun _ hk => hk.1.2)⟩, ⟨by (with_reducible repeat (first | apply Kd.R_alloc | apply Kd.R_drewN | apply Kd.R_drew)); exact Kd.R_mono HO201.out (fun _ hk => hk.1.2)⟩, ⟨by repeat (first | (with_reducible first | exact HB.out | apply below_alloc | apply pw_below_drewN | apply below_drew1) | exact HB.out)⟩⟩
      · rw [if_neg c22] at H
        have c22b0 : (t213 == 0) = false := beq_eq_false_iff_ne.mpr c22
        have c22b1 : (t213 != 0) = true := bne_iff_ne.mpr c22
        (first | rw [c22b0] | (simp only [i64_w, i32_w]; rw [c22b0]) | skip)
        have H' := Aside0.mk H
        clear H
        go_wp2_with (first | ((with_reducible refine gate_callee (f := 34) rfl ?_); refine goesL_ (some 53) rfl rfl Try.func34 (by kernel_rfl) rfl #[.int .i64 t206] rfl (by (try simp only [List.map_toArray, List.map_cons, List.map_nil]); first | done | rfl | (simp only [List.length_drop, List.length_take]; rfl)) ?_; (with_reducible refine (portagelaw0_Num.calls t206 t213 _ A21.out).mono ?_); rintro e w' ⟨rfl, ⟨nd, rfl⟩⟩; refine ⟨_, rfl, ?_⟩))
        go_meet
        case rel => exact ⟨_, (true), (by first | rfl | (simp; done) | (simp [*]; done)), H', ⟨by first | omega | exact Nat.le_refl _⟩, ⟨by (with_reducible repeat (first | apply Kd.R_alloc | apply Kd.R_drewN | apply Kd.R_drew)); exact Kd.R_mono HO198.out (fun _ hk => hk.1.2)⟩, ⟨by (with_reducible repeat (first | apply Kd.R_alloc | apply Kd.R_drewN | apply Kd.R_drew)); exact Kd.R_mono HO201.out (fun _ hk => hk.1.2)⟩, ⟨by repeat (first | (with_reducible first | exact HB.out | apply below_alloc | apply pw_below_drewN | apply below_drew1) | exact HB.out)⟩⟩
    case rest =>
      clear HC13
      try clear c1
      try clear c2
      try clear p2
      try clear c3
      try clear c4
      try clear c5
      try clear c12
      try clear c22
      try clear c22b0
      try clear c22b1
      try clear c24
      try clear c24b0
      try clear c24b1
      try clear c26
      try clear c26b0
      try clear c26b1
      obtain ⟨kq, x69_12, rfl, HA, HJ12, HO_7, HO_8, HB⟩ := hcut
      cases kq with
      | zero => exact absurd HA.out (by simp [portagelaw11_VectorOrders.j0])
      | succ kj12 =>
        have H := HA.out
        clear HA
        simp only [portagelaw11_VectorOrders.j0] at H
        by_cases c28 : x69_12 = true
        · subst c28
          have H1 : (none) = some r := by rw [if_pos rfl] at H; exact H
          clear H
          have H := H1
          clear H1
          exact absurd H (by simp)
        · replace c28 := Bool.eq_false_iff.mpr c28
          subst c28
          have H1 : (if t205 = 1 then (if t207 = 2 then (portagelaw11_VectorOrders.j1 kj12 t196 t199 t205 t209 t211 true) else (if t205 = 2 then (if t207 = 1 then (portagelaw11_VectorOrders.j1 kj12 t196 t199 t205 t209 t211 true) else (if t205 = t207 then (if t205 = 0 then (portagelaw11_VectorOrders.j1 kj12 t196 t199 t205 t209 t211 true) else (portagelaw11_VectorOrders.j1 kj12 t196 t199 t205 t209 t211 (t205 == 3))) else (portagelaw11_VectorOrders.j1 kj12 t196 t199 t205 t209 t211 false))) else (if t205 = t207 then (if t205 = 0 then (portagelaw11_VectorOrders.j1 kj12 t196 t199 t205 t209 t211 true) else (portagelaw11_VectorOrders.j1 kj12 t196 t199 t205 t209 t211 (t205 == 3))) else (portagelaw11_VectorOrders.j1 kj12 t196 t199 t205 t209 t211 false)))) else (if t205 = 2 then (if t207 = 1 then (portagelaw11_VectorOrders.j1 kj12 t196 t199 t205 t209 t211 true) else (if t205 = t207 then (if t205 = 0 then (portagelaw11_VectorOrders.j1 kj12 t196 t199 t205 t209 t211 true) else (portagelaw11_VectorOrders.j1 kj12 t196 t199 t205 t209 t211 (t205 == 3))) else (portagelaw11_VectorOrders.j1 kj12 t196 t199 t205 t209 t211 false))) else (if t205 = t207 then (if t205 = 0 then (portagelaw11_VectorOrders.j1 kj12 t196 t199 t205 t209 t211 true) else (portagelaw11_VectorOrders.j1 kj12 t196 t199 t205 t209 t211 (t205 == 3))) else (portagelaw11_VectorOrders.j1 kj12 t196 t199 t205 t209 t211 false)))) = some r := by rw [if_neg (show ¬ (false = true) by decide)] at H; exact H
          clear H
          have H := H1
          clear H1
          have HC29 := Aside0.mk H
          clear H
          go_upto_region 10 with (fail)
          go_cut [18] (fun v18 wc => ∃ (kq : Nat) (x18_28 : Bool), v18 = .bool x18_28 ∧ Aside0 (portagelaw11_VectorOrders.j1 kq t196 t199 t205 t209 t211 x18_28 = some r) ∧ Aside0 (kq ≤ kj12) ∧ Aside0 (Kd.R (Kd.int .i64) 3 wc w.heap.size (fun k_ => some k_ ≠ ((.slice Ao19 t199.length co19) : Value).ownBlock) (.slice Ao18 t196.length co18) t196) ∧ Aside0 (Kd.R (Kd.int .i64) 3 wc w.heap.size (fun k_ => some k_ ≠ ((.slice Ao18 t196.length co18) : Value).ownBlock) (.slice Ao19 t199.length co19) t199) ∧ Aside0 (Below w.heap.size w wc))
          case first =>
            have H := HC29.out
            clear HC29
            by_cases c30 : t205 = 1
            · rw [if_pos c30] at H
              have c30b0 : (t205 == 1) = true := beq_iff_eq.mpr c30
              have c30b1 : (t205 != 1) = false := bne_eq_false_iff_eq.mpr c30
              clear c30
              (first | rw [c30b0] | (simp only [i64_w, i32_w]; rw [c30b0]) | skip)
              by_cases c31 : t207 = 2
              · rw [if_pos c31] at H
                have c31b0 : (t207 == 2) = true := beq_iff_eq.mpr c31
                have c31b1 : (t207 != 2) = false := bne_eq_false_iff_eq.mpr c31
                clear c31
                have H' := Aside0.mk H
                clear H
                go_wp2
                go_meet
                case rel => exact ⟨_, (true), (by first | rfl | (simp; done) | (simp [*]; done)), H', ⟨by have := HJ12.out; first | omega | exact Nat.le_refl _⟩, ⟨by (with_reducible repeat (first | apply Kd.R_alloc | apply Kd.R_drewN | apply Kd.R_drew)); exact HO_7.out⟩, ⟨by (with_reducible repeat (first | apply Kd.R_alloc | apply Kd.R_drewN | apply Kd.R_drew)); exact HO_8.out⟩, ⟨by repeat (first | (with_reducible first | exact HB.out | apply below_alloc | apply pw_below_drewN | apply below_drew1) | exact HB.out)⟩⟩
              · rw [if_neg c31] at H
                have c31b0 : (t207 == 2) = false := beq_eq_false_iff_ne.mpr c31
                have c31b1 : (t207 != 2) = true := bne_iff_ne.mpr c31
                by_cases c32 : t205 = 2
                · rw [if_pos c32] at H
                  have c32b0 : (t205 == 2) = true := beq_iff_eq.mpr c32
                  have c32b1 : (t205 != 2) = false := bne_eq_false_iff_eq.mpr c32
                  clear c32
                  by_cases c33 : t207 = 1
                  · rw [if_pos c33] at H
                    have c33b0 : (t207 == 1) = true := beq_iff_eq.mpr c33
                    have c33b1 : (t207 != 1) = false := bne_eq_false_iff_eq.mpr c33
                    clear c33
                    have H' := Aside0.mk H
                    clear H
                    go_wp2
                    go_meet
                    case rel => exact ⟨_, (true), (by first | rfl | (simp; done) | (simp [*]; done)), H', ⟨by have := HJ12.out; first | omega | exact Nat.le_refl _⟩, ⟨by (with_reducible repeat (first | apply Kd.R_alloc | apply Kd.R_drewN | apply Kd.R_drew)); exact HO_7.out⟩, ⟨by (with_reducible repeat (first | apply Kd.R_alloc | apply Kd.R_drewN | apply Kd.R_drew)); exact HO_8.out⟩, ⟨by repeat (first | (with_reducible first | exact HB.out | apply below_alloc | apply pw_below_drewN | apply below_drew1) | exact HB.out)⟩⟩
                  · rw [if_neg c33] at H
                    have c33b0 : (t207 == 1) = false := beq_eq_false_iff_ne.mpr c33
                    have c33b1 : (t207 != 1) = true := bne_iff_ne.mpr c33
                    by_cases c34 : t205 = t207
                    · rw [if_pos c34] at H
                      have c34b0 : (t205 == t207) = true := beq_iff_eq.mpr c34
                      have c34b1 : (t205 != t207) = false := bne_eq_false_iff_eq.mpr c34
                      clear c34
                      by_cases c35 : t205 = 0
                      · rw [if_pos c35] at H
                        have c35b0 : (t205 == 0) = true := beq_iff_eq.mpr c35
                        have c35b1 : (t205 != 0) = false := bne_eq_false_iff_eq.mpr c35
                        clear c35
                        have H' := Aside0.mk H
                        clear H
                        go_wp2
                        go_meet
                        case rel => exact ⟨_, (true), (by first | rfl | (simp; done) | (simp [*]; done)), H', ⟨by have := HJ12.out; first | omega | exact Nat.le_refl _⟩, ⟨by (with_reducible repeat (first | apply Kd.R_alloc | apply Kd.R_drewN | apply Kd.R_drew)); exact HO_7.out⟩, ⟨by (with_reducible repeat (first | apply Kd.R_alloc | apply Kd.R_drewN | apply Kd.R_drew)); exact HO_8.out⟩, ⟨by repeat (first | (with_reducible first | exact HB.out | apply below_alloc | apply pw_below_drewN | apply below_drew1) | exact HB.out)⟩⟩
                      · rw [if_neg c35] at H
                        have c35b0 : (t205 == 0) = false := beq_eq_false_iff_ne.mpr c35
                        have c35b1 : (t205 != 0) = true := bne_iff_ne.mpr c35
                        have H' := Aside0.mk H
                        clear H
                        go_wp2
                        go_meet
                        case rel => exact ⟨_, ((t205 == 3)), (by first | rfl | (simp; done) | (simp [*]; done)), H', ⟨by have := HJ12.out; first | omega | exact Nat.le_refl _⟩, ⟨by (with_reducible repeat (first | apply Kd.R_alloc | apply Kd.R_drewN | apply Kd.R_drew)); exact HO_7.out⟩, ⟨by (with_reducible repeat (first | apply Kd.R_alloc | apply Kd.R_drewN | apply Kd.R_drew)); exact HO_8.out⟩, ⟨by repeat (first | (with_reducible first | exact HB.out | apply below_alloc | apply pw_below_drewN | apply below_drew1) | exact HB.out)⟩⟩
                    · rw [if_neg c34] at H
                      have c34b0 : (t205 == t207) = false := beq_eq_false_iff_ne.mpr c34
                      have c34b1 : (t205 != t207) = true := bne_iff_ne.mpr c34
                      have H' := Aside0.mk H
                      clear H
                      go_wp2
                      go_meet
                      case rel => exact ⟨_, (false), (by first | rfl | (simp; done) | (simp [*]; done)), H', ⟨by have := HJ12.out; first | omega | exact Nat.le_refl _⟩, ⟨by (with_reducible repeat (first | apply Kd.R_alloc | apply Kd.R_drewN | apply Kd.R_drew)); exact HO_7.out⟩, ⟨by (with_reducible repeat (first | apply Kd.R_alloc | apply Kd.R_drewN | apply Kd.R_drew)); exact HO_8.out⟩, ⟨by repeat (first | (with_reducible first | exact HB.out | apply below_alloc | apply pw_below_drewN | apply below_drew1) | exact HB.out)⟩⟩
                · rw [if_neg c32] at H
                  have c32b0 : (t205 == 2) = false := beq_eq_false_iff_ne.mpr c32
                  have c32b1 : (t205 != 2) = true := bne_iff_ne.mpr c32
                  by_cases c36 : t205 = t207
                  · rw [if_pos c36] at H
                    have c36b0 : (t205 == t207) = true := beq_iff_eq.mpr c36
                    have c36b1 : (t205 != t207) = false := bne_eq_false_iff_eq.mpr c36
                    clear c36
                    by_cases c37 : t205 = 0
                    · rw [if_pos c37] at H
                      have c37b0 : (t205 == 0) = true := beq_iff_eq.mpr c37
                      have c37b1 : (t205 != 0) = false := bne_eq_false_iff_eq.mpr c37
                      clear c37
                      have H' := Aside0.mk H
                      clear H
                      go_wp2
                      go_meet
                      case rel => exact ⟨_, (true), (by first | rfl | (simp; done) | (simp [*]; done)), H', ⟨by have := HJ12.out; first | omega | exact Nat.le_refl _⟩, ⟨by (with_reducible repeat (first | apply Kd.R_alloc | apply Kd.R_drewN | apply Kd.R_drew)); exact HO_7.out⟩, ⟨by (with_reducible repeat (first | apply Kd.R_alloc | apply Kd.R_drewN | apply Kd.R_drew)); exact HO_8.out⟩, ⟨by repeat (first | (with_reducible first | exact HB.out | apply below_alloc | apply pw_below_drewN | apply below_drew1) | exact HB.out)⟩⟩
                    · rw [if_neg c37] at H
                      have c37b0 : (t205 == 0) = false := beq_eq_false_iff_ne.mpr c37
                      have c37b1 : (t205 != 0) = true := bne_iff_ne.mpr c37
                      have H' := Aside0.mk H
                      clear H
                      go_wp2
                      go_meet
                      case rel => exact ⟨_, ((t205 == 3)), (by first | rfl | (simp; done) | (simp [*]; done)), H', ⟨by have := HJ12.out; first | omega | exact Nat.le_refl _⟩, ⟨by (with_reducible repeat (first | apply Kd.R_alloc | apply Kd.R_drewN | apply Kd.R_drew)); exact HO_7.out⟩, ⟨by (with_reducible repeat (first | apply Kd.R_alloc | apply Kd.R_drewN | apply Kd.R_drew)); exact HO_8.out⟩, ⟨by repeat (first | (with_reducible first | exact HB.out | apply below_alloc | apply pw_below_drewN | apply below_drew1) | exact HB.out)⟩⟩
                  · rw [if_neg c36] at H
                    have c36b0 : (t205 == t207) = false := beq_eq_false_iff_ne.mpr c36
                    have c36b1 : (t205 != t207) = true := bne_iff_ne.mpr c36
                    have H' := Aside0.mk H
                    clear H
                    go_wp2
                    go_meet
                    case rel => exact ⟨_, (false), (by first | rfl | (simp; done) | (simp [*]; done)), H', ⟨by have := HJ12.out; first | omega | exact Nat.le_refl _⟩, ⟨by (with_reducible repeat (first | apply Kd.R_alloc | apply Kd.R_drewN | apply Kd.R_drew)); exact HO_7.out⟩, ⟨by (with_reducible repeat (first | apply Kd.R_alloc | apply Kd.R_drewN | apply Kd.R_drew)); exact HO_8.out⟩, ⟨by repeat (first | (with_reducible first | exact HB.out | apply below_alloc | apply pw_below_drewN | apply below_drew1) | exact HB.out)⟩⟩
            · rw [if_neg c30] at H
              have c30b0 : (t205 == 1) = false := beq_eq_false_iff_ne.mpr c30
              have c30b1 : (t205 != 1) = true := bne_iff_ne.mpr c30
              (first | rw [c30b0] | (simp only [i64_w, i32_w]; rw [c30b0]) | skip)
              by_cases c38 : t205 = 2
              · rw [if_pos c38] at H
                have c38b0 : (t205 == 2) = true := beq_iff_eq.mpr c38
                have c38b1 : (t205 != 2) = false := bne_eq_false_iff_eq.mpr c38
                clear c38
                by_cases c39 : t207 = 1
                · rw [if_pos c39] at H
                  have c39b0 : (t207 == 1) = true := beq_iff_eq.mpr c39
                  have c39b1 : (t207 != 1) = false := bne_eq_false_iff_eq.mpr c39
                  clear c39
                  have H' := Aside0.mk H
                  clear H
                  go_wp2
                  go_meet
                  case rel => exact ⟨_, (true), (by first | rfl | (simp; done) | (simp [*]; done)), H', ⟨by have := HJ12.out; first | omega | exact Nat.le_refl _⟩, ⟨by (with_reducible repeat (first | apply Kd.R_alloc | apply Kd.R_drewN | apply Kd.R_drew)); exact HO_7.out⟩, ⟨by (with_reducible repeat (first | apply Kd.R_alloc | apply Kd.R_drewN | apply Kd.R_drew)); exact HO_8.out⟩, ⟨by repeat (first | (with_reducible first | exact HB.out | apply below_alloc | apply pw_below_drewN | apply below_drew1) | exact HB.out)⟩⟩
                · rw [if_neg c39] at H
                  have c39b0 : (t207 == 1) = false := beq_eq_false_iff_ne.mpr c39
                  have c39b1 : (t207 != 1) = true := bne_iff_ne.mpr c39
                  by_cases c40 : t205 = t207
                  · rw [if_pos c40] at H
                    have c40b0 : (t205 == t207) = true := beq_iff_eq.mpr c40
                    have c40b1 : (t205 != t207) = false := bne_eq_false_iff_eq.mpr c40
                    clear c40
                    by_cases c41 : t205 = 0
                    · rw [if_pos c41] at H
                      have c41b0 : (t205 == 0) = true := beq_iff_eq.mpr c41
                      have c41b1 : (t205 != 0) = false := bne_eq_false_iff_eq.mpr c41
                      clear c41
                      have H' := Aside0.mk H
                      clear H
                      go_wp2
                      go_meet
                      case rel => exact ⟨_, (true), (by first | rfl | (simp; done) | (simp [*]; done)), H', ⟨by have := HJ12.out; first | omega | exact Nat.le_refl _⟩, ⟨by (with_reducible repeat (first | apply Kd.R_alloc | apply Kd.R_drewN | apply Kd.R_drew)); exact HO_7.out⟩, ⟨by (with_reducible repeat (first | apply Kd.R_alloc | apply Kd.R_drewN | apply Kd.R_drew)); exact HO_8.out⟩, ⟨by repeat (first | (with_reducible first | exact HB.out | apply below_alloc | apply pw_below_drewN | apply below_drew1) | exact HB.out)⟩⟩
                    · rw [if_neg c41] at H
                      have c41b0 : (t205 == 0) = false := beq_eq_false_iff_ne.mpr c41
                      have c41b1 : (t205 != 0) = true := bne_iff_ne.mpr c41
                      have H' := Aside0.mk H
                      clear H
                      go_wp2
                      go_meet
                      case rel => exact ⟨_, ((t205 == 3)), (by first | rfl | (simp; done) | (simp [*]; done)), H', ⟨by have := HJ12.out; first | omega | exact Nat.le_refl _⟩, ⟨by (with_reducible repeat (first | apply Kd.R_alloc | apply Kd.R_drewN | apply Kd.R_drew)); exact HO_7.out⟩, ⟨by (with_reducible repeat (first | apply Kd.R_alloc | apply Kd.R_drewN | apply Kd.R_drew)); exact HO_8.out⟩, ⟨by repeat (first | (with_reducible first | exact HB.out | apply below_alloc | apply pw_below_drewN | apply below_drew1) | exact HB.out)⟩⟩
                  · rw [if_neg c40] at H
                    have c40b0 : (t205 == t207) = false := beq_eq_false_iff_ne.mpr c40
                    have c40b1 : (t205 != t207) = true := bne_iff_ne.mpr c40
                    have H' := Aside0.mk H
                    clear H
                    go_wp2
                    go_meet
                    case rel => exact ⟨_, (false), (by first | rfl | (simp; done) | (simp [*]; done)), H', ⟨by have := HJ12.out; first | omega | exact Nat.le_refl _⟩, ⟨by (with_reducible repeat (first | apply Kd.R_alloc | apply Kd.R_drewN | apply Kd.R_drew)); exact HO_7.out⟩, ⟨by (with_reducible repeat (first | apply Kd.R_alloc | apply Kd.R_drewN | apply Kd.R_drew)); exact HO_8.out⟩, ⟨by repeat (first | (with_reducible first | exact HB.out | apply below_alloc | apply pw_below_drewN | apply below_drew1) | exact HB.out)⟩⟩
              · rw [if_neg c38] at H
                have c38b0 : (t205 == 2) = false := beq_eq_false_iff_ne.mpr c38
                have c38b1 : (t205 != 2) = true := bne_iff_ne.mpr c38
                by_cases c42 : t205 = t207
                · rw [if_pos c42] at H
                  have c42b0 : (t205 == t207) = true := beq_iff_eq.mpr c42
                  have c42b1 : (t205 != t207) = false := bne_eq_false_iff_eq.mpr c42
                  clear c42
                  by_cases c43 : t205 = 0
                  · rw [if_pos c43] at H
                    have c43b0 : (t205 == 0) = true := beq_iff_eq.mpr c43
                    have c43b1 : (t205 != 0) = false := bne_eq_false_iff_eq.mpr c43
                    clear c43
                    have H' := Aside0.mk H
                    clear H
                    go_wp2
                    go_meet
                    case rel => exact ⟨_, (true), (by first | rfl | (simp; done) | (simp [*]; done)), H', ⟨by have := HJ12.out; first | omega | exact Nat.le_refl _⟩, ⟨by (with_reducible repeat (first | apply Kd.R_alloc | apply Kd.R_drewN | apply Kd.R_drew)); exact HO_7.out⟩, ⟨by (with_reducible repeat (first | apply Kd.R_alloc | apply Kd.R_drewN | apply Kd.R_drew)); exact HO_8.out⟩, ⟨by repeat (first | (with_reducible first | exact HB.out | apply below_alloc | apply pw_below_drewN | apply below_drew1) | exact HB.out)⟩⟩
                  · rw [if_neg c43] at H
                    have c43b0 : (t205 == 0) = false := beq_eq_false_iff_ne.mpr c43
                    have c43b1 : (t205 != 0) = true := bne_iff_ne.mpr c43
                    have H' := Aside0.mk H
                    clear H
                    go_wp2
                    go_meet
                    case rel => exact ⟨_, ((t205 == 3)), (by first | rfl | (simp; done) | (simp [*]; done)), H', ⟨by have := HJ12.out; first | omega | exact Nat.le_refl _⟩, ⟨by (with_reducible repeat (first | apply Kd.R_alloc | apply Kd.R_drewN | apply Kd.R_drew)); exact HO_7.out⟩, ⟨by (with_reducible repeat (first | apply Kd.R_alloc | apply Kd.R_drewN | apply Kd.R_drew)); exact HO_8.out⟩, ⟨by repeat (first | (with_reducible first | exact HB.out | apply below_alloc | apply pw_below_drewN | apply below_drew1) | exact HB.out)⟩⟩
                · rw [if_neg c42] at H
                  have c42b0 : (t205 == t207) = false := beq_eq_false_iff_ne.mpr c42
                  have c42b1 : (t205 != t207) = true := bne_iff_ne.mpr c42
                  have H' := Aside0.mk H
                  clear H
                  go_wp2
                  go_meet
                  case rel => exact ⟨_, (false), (by first | rfl | (simp; done) | (simp [*]; done)), H', ⟨by have := HJ12.out; first | omega | exact Nat.le_refl _⟩, ⟨by (with_reducible repeat (first | apply Kd.R_alloc | apply Kd.R_drewN | apply Kd.R_drew)); exact HO_7.out⟩, ⟨by (with_reducible repeat (first | apply Kd.R_alloc | apply Kd.R_drewN | apply Kd.R_drew)); exact HO_8.out⟩, ⟨by repeat (first | (with_reducible first | exact HB.out | apply below_alloc | apply pw_below_drewN | apply below_drew1) | exact HB.out)⟩⟩
          case rest =>
            clear HC29
            try clear c1
            try clear c2
            try clear p2
            try clear c3
            try clear c4
            try clear c5
            try clear c12
            try clear c22
            try clear c22b0
            try clear c22b1
            try clear c24
            try clear c24b0
            try clear c24b1
            try clear c26
            try clear c26b0
            try clear c26b1
            try clear c28
            try clear c30
            try clear c30b0
            try clear c30b1
            try clear c31
            try clear c31b0
            try clear c31b1
            try clear c32
            try clear c32b0
            try clear c32b1
            try clear c33
            try clear c33b0
            try clear c33b1
            try clear c34
            try clear c34b0
            try clear c34b1
            try clear c35
            try clear c35b0
            try clear c35b1
            try clear c36
            try clear c36b0
            try clear c36b1
            try clear c37
            try clear c37b0
            try clear c37b1
            try clear c38
            try clear c38b0
            try clear c38b1
            try clear c39
            try clear c39b0
            try clear c39b1
            try clear c40
            try clear c40b0
            try clear c40b1
            try clear c41
            try clear c41b0
            try clear c41b1
            try clear c42
            try clear c42b0
            try clear c42b1
            try clear c43
            try clear c43b0
            try clear c43b1
            try clear p2
            obtain ⟨kq, x18_28, rfl, HA, HJ28, HO_7, HO_8, HB⟩ := hcut
            cases kq with
            | zero => exact absurd HA.out (by simp [portagelaw11_VectorOrders.j1])
            | succ kj28 =>
              have H := HA.out
              clear HA
              simp only [portagelaw11_VectorOrders.j1] at H
              have HC44 := Aside0.mk H
              clear H
              go_upto_region 11 with (fail)
              go_cut [19] (fun v19 wc => ∃ (kq : Nat) (x19_43 : Bool), v19 = .bool x19_43 ∧ Aside0 (portagelaw11_VectorOrders.j2 kq t196 t199 t205 t211 x18_28 x19_43 = some r) ∧ Aside0 (kq ≤ kj28) ∧ Aside0 (Kd.R (Kd.int .i64) 3 wc w.heap.size (fun k_ => some k_ ≠ ((.slice Ao19 t199.length co19) : Value).ownBlock) (.slice Ao18 t196.length co18) t196) ∧ Aside0 (Kd.R (Kd.int .i64) 3 wc w.heap.size (fun k_ => some k_ ≠ ((.slice Ao18 t196.length co18) : Value).ownBlock) (.slice Ao19 t199.length co19) t199) ∧ Aside0 (Below w.heap.size w wc))
              case first =>
                have H := HC44.out
                clear HC44
                by_cases c45 : t205 = 1
                · rw [if_pos c45] at H
                  have c45b0 : (t205 == 1) = true := beq_iff_eq.mpr c45
                  have c45b1 : (t205 != 1) = false := bne_eq_false_iff_eq.mpr c45
                  clear c45
                  (first | rw [c45b0] | (simp only [i64_w, i32_w]; rw [c45b0]) | skip)
                  by_cases c46 : t209 = 1
                  · rw [if_pos c46] at H
                    have c46b0 : (t209 == 1) = true := beq_iff_eq.mpr c46
                    have c46b1 : (t209 != 1) = false := bne_eq_false_iff_eq.mpr c46
                    clear c46
                    have H' := Aside0.mk H
                    clear H
                    go_wp2
                    go_meet
                    case rel => exact ⟨_, (true), (by first | rfl | (simp; done) | (simp [*]; done)), H', ⟨by have := HJ12.out; have := HJ28.out; first | omega | exact Nat.le_refl _⟩, ⟨by (with_reducible repeat (first | apply Kd.R_alloc | apply Kd.R_drewN | apply Kd.R_drew)); exact HO_7.out⟩, ⟨by (with_reducible repeat (first | apply Kd.R_alloc | apply Kd.R_drewN | apply Kd.R_drew)); exact HO_8.out⟩, ⟨by repeat (first | (with_reducible first | exact HB.out | apply below_alloc | apply pw_below_drewN | apply below_drew1) | exact HB.out)⟩⟩
                  · rw [if_neg c46] at H
                    have c46b0 : (t209 == 1) = false := beq_eq_false_iff_ne.mpr c46
                    have c46b1 : (t209 != 1) = true := bne_iff_ne.mpr c46
                    have H' := Aside0.mk H
                    clear H
                    go_wp2
                    go_meet
                    case rel => exact ⟨_, ((t209 == 0)), (by first | rfl | (simp; done) | (simp [*]; done)), H', ⟨by have := HJ12.out; have := HJ28.out; first | omega | exact Nat.le_refl _⟩, ⟨by (with_reducible repeat (first | apply Kd.R_alloc | apply Kd.R_drewN | apply Kd.R_drew)); exact HO_7.out⟩, ⟨by (with_reducible repeat (first | apply Kd.R_alloc | apply Kd.R_drewN | apply Kd.R_drew)); exact HO_8.out⟩, ⟨by repeat (first | (with_reducible first | exact HB.out | apply below_alloc | apply pw_below_drewN | apply below_drew1) | exact HB.out)⟩⟩
                · rw [if_neg c45] at H
                  have c45b0 : (t205 == 1) = false := beq_eq_false_iff_ne.mpr c45
                  have c45b1 : (t205 != 1) = true := bne_iff_ne.mpr c45
                  (first | rw [c45b0] | (simp only [i64_w, i32_w]; rw [c45b0]) | skip)
                  have H' := Aside0.mk H
                  clear H
                  go_wp2
                  go_meet
                  case rel => exact ⟨_, (false), (by first | rfl | (simp; done) | (simp [*]; done)), H', ⟨by have := HJ12.out; have := HJ28.out; first | omega | exact Nat.le_refl _⟩, ⟨by (with_reducible repeat (first | apply Kd.R_alloc | apply Kd.R_drewN | apply Kd.R_drew)); exact HO_7.out⟩, ⟨by (with_reducible repeat (first | apply Kd.R_alloc | apply Kd.R_drewN | apply Kd.R_drew)); exact HO_8.out⟩, ⟨by repeat (first | (with_reducible first | exact HB.out | apply below_alloc | apply pw_below_drewN | apply below_drew1) | exact HB.out)⟩⟩
              case rest =>
                clear HC44
                try clear c1
                try clear c2
                try clear p2
                try clear c3
                try clear c4
                try clear c5
                try clear c12
                try clear c22
                try clear c22b0
                try clear c22b1
                try clear c24
                try clear c24b0
                try clear c24b1
                try clear c26
                try clear c26b0
                try clear c26b1
                try clear c28
                try clear c30
                try clear c30b0
                try clear c30b1
                try clear c31
                try clear c31b0
                try clear c31b1
                try clear c32
                try clear c32b0
                try clear c32b1
                try clear c33
                try clear c33b0
                try clear c33b1
                try clear c34
                try clear c34b0
                try clear c34b1
                try clear c35
                try clear c35b0
                try clear c35b1
                try clear c36
                try clear c36b0
                try clear c36b1
                try clear c37
                try clear c37b0
                try clear c37b1
                try clear c38
                try clear c38b0
                try clear c38b1
                try clear c39
                try clear c39b0
                try clear c39b1
                try clear c40
                try clear c40b0
                try clear c40b1
                try clear c41
                try clear c41b0
                try clear c41b1
                try clear c42
                try clear c42b0
                try clear c42b1
                try clear c43
                try clear c43b0
                try clear c43b1
                try clear c45
                try clear c45b0
                try clear c45b1
                try clear c46
                try clear c46b0
                try clear c46b1
                try clear p2
                obtain ⟨kq, x19_43, rfl, HA, HJ43, HO_7, HO_8, HB⟩ := hcut
                cases kq with
                | zero => exact absurd HA.out (by simp [portagelaw11_VectorOrders.j2])
                | succ kj43 =>
                  have H := HA.out
                  clear HA
                  simp only [portagelaw11_VectorOrders.j2] at H
                  by_cases c47 : x18_28 = true
                  · subst c47
                    have H1 : ((portagelaw0_SameInts.f kj43 t196 t199).bind fun t217 => (if ((t205 == 0) == t217) = true then (if x19_43 = true then (some (t211 == 1)) else (some true)) else (none))) = some r := by rw [if_pos rfl] at H; exact H
                    clear H
                    have H := H1
                    clear H1
                    replace H := Option.bind_eq_some_iff.mp H
                    obtain ⟨t217, A480, H⟩ := H
                    replace H : (if ((t205 == 0) == t217) = true then (if x19_43 = true then (some (t211 == 1)) else (some true)) else (none)) = some r := H
                    have A48 := Aside0.mk A480
                    clear A480
                    by_cases c49 : ((t205 == 0) == t217) = true
                    · rw [if_pos c49] at H
                      have c49b0 : ((t205 == 0) == t217) = true := c49
                      (try (have c49b1 : decide ((t205 == 0) = t217) = true := by simpa using c49))
                      (try (have c49b2 : ((t205 == 0) == t217) = true := by simpa using c49))
                      clear c49
                      by_cases c50 : x19_43 = true
                      · subst c50
                        have H1 : (some (t211 == 1)) = some r := by rw [if_pos rfl] at H; exact H
                        clear H
                        have H := H1
                        clear H1
                        obtain rfl := Option.some.inj H
                        go_wp2_with (first | (go_at_call 42; (with_reducible refine (portagelaw0_SameInts.calls kj43 _ _ t196 _ _ t199 t217 _ ?side1 ?side2 ?side3 ?side4 A48.out).mono ?_); (case side1 => repeat (first | exact (Kd.R_reads' HO_7.out).2.2 | (with_reducible refine Kd.C_alloc ?_ _) | (with_reducible refine Kd.C_drewN ?_ _) | (with_reducible refine Kd.C_drew ?_))); (case side2 => exact (Kd.R_reads' HO_7.out).2.1); (case side3 => repeat (first | exact (Kd.R_reads' HO_8.out).2.2 | (with_reducible refine Kd.C_alloc ?_ _) | (with_reducible refine Kd.C_drewN ?_ _) | (with_reducible refine Kd.C_drew ?_))); (case side4 => exact (Kd.R_reads' HO_8.out).2.1); rintro e w' ⟨rfl, ⟨nd, rfl⟩⟩))
                        go_ret
                        exact ⟨by first | rfl | (simp [errW_none, errW_some] <;> rfl) | (simp [*, errW_none, errW_some] <;> rfl), by repeat (first | (with_reducible first | exact HB.out | apply below_alloc | apply pw_below_drewN | apply below_drew1) | exact HB.out)⟩
                      · replace c50 := Bool.eq_false_iff.mpr c50
                        subst c50
                        have H1 : (some true) = some r := by rw [if_neg (show ¬ (false = true) by decide)] at H; exact H
                        clear H
                        have H := H1
                        clear H1
                        obtain rfl := Option.some.inj H
                        go_wp2_with (first | (go_at_call 42; (with_reducible refine (portagelaw0_SameInts.calls kj43 _ _ t196 _ _ t199 t217 _ ?side1 ?side2 ?side3 ?side4 A48.out).mono ?_); (case side1 => repeat (first | exact (Kd.R_reads' HO_7.out).2.2 | (with_reducible refine Kd.C_alloc ?_ _) | (with_reducible refine Kd.C_drewN ?_ _) | (with_reducible refine Kd.C_drew ?_))); (case side2 => exact (Kd.R_reads' HO_7.out).2.1); (case side3 => repeat (first | exact (Kd.R_reads' HO_8.out).2.2 | (with_reducible refine Kd.C_alloc ?_ _) | (with_reducible refine Kd.C_drewN ?_ _) | (with_reducible refine Kd.C_drew ?_))); (case side4 => exact (Kd.R_reads' HO_8.out).2.1); rintro e w' ⟨rfl, ⟨nd, rfl⟩⟩))
                        go_ret
                        exact ⟨by first | rfl | (simp [errW_none, errW_some] <;> rfl) | (simp [*, errW_none, errW_some] <;> rfl), by repeat (first | (with_reducible first | exact HB.out | apply below_alloc | apply pw_below_drewN | apply below_drew1) | exact HB.out)⟩
                    · rw [if_neg c49] at H
                      exact absurd H (by simp)
                  · replace c47 := Bool.eq_false_iff.mpr c47
                    subst c47
                    have H1 : (none) = some r := by rw [if_neg (show ¬ (false = true) by decide)] at H; exact H
                    clear H
                    have H := H1
                    clear H1
                    exact absurd H (by simp)
  · replace c5 := Bool.eq_false_iff.mpr c5
    subst c5
    have H1 : (none) = some r := by rw [if_neg (show ¬ (false = true) by decide)] at H; exact H
    clear H
    have H := H1
    clear H1
    exact absurd H (by simp)

/-- THE ONE PURE STATEMENT of portagelaw11_VectorOrders: yours. -/
def portagelaw11_VectorOrders.Pure : Prop := ∀ (l0 : List Int) (l1 : List Int) (l2 : List Int), l0.length ≤ maxLen → l0.length * 8 ≤ 140737488351232 → (∀ x ∈ l0, (Lit.int .i64 x).wf = true) → l1.length ≤ maxLen → l1.length * 8 ≤ 140737488351232 → (∀ x ∈ l1, (Lit.int .i64 x).wf = true) → l2.length ≤ maxLen → l2.length * 8 ≤ 140737488351232 → (∀ x ∈ l2, (Lit.int .i64 x).wf = true) → ∃ k, portagelaw11_VectorOrders.f k l0 l1 l2 = some true
theorem portagelaw11_VectorOrders.walk (P : portagelaw11_VectorOrders.Pure) (a0 : Option Addr) (len0 cap0 : Nat) (z0 : List Int) (a1 : Option Addr) (len1 cap1 : Nat) (z1 : List Int) (a2 : Option Addr) (len2 cap2 : Nat) (z2 : List Int) (w : World) (w0 : (a0 = none ∧ len0 = 0 ∧ cap0 = 0 ∧ z0 = []) ∨ ∃ x, a0 = some x ∧ len0 ≤ cap0 ∧ cap0 ≤ maxLen ∧ z0.length = cap0 ∧ (∀ i, i < z0.length → w.cell? (x.add i) = some (.int .i64 (z0.getD i 0))) ∧ ∀ n ∈ z0, (Lit.int .i64 n).wf = true) (y0 : len0 * 8 ≤ 140737488351232) (w1 : (a1 = none ∧ len1 = 0 ∧ cap1 = 0 ∧ z1 = []) ∨ ∃ x, a1 = some x ∧ len1 ≤ cap1 ∧ cap1 ≤ maxLen ∧ z1.length = cap1 ∧ (∀ i, i < z1.length → w.cell? (x.add i) = some (.int .i64 (z1.getD i 0))) ∧ ∀ n ∈ z1, (Lit.int .i64 n).wf = true) (y1 : len1 * 8 ≤ 140737488351232) (w2 : (a2 = none ∧ len2 = 0 ∧ cap2 = 0 ∧ z2 = []) ∨ ∃ x, a2 = some x ∧ len2 ≤ cap2 ∧ cap2 ≤ maxLen ∧ z2.length = cap2 ∧ (∀ i, i < z2.length → w.cell? (x.add i) = some (.int .i64 (z2.getD i 0))) ∧ ∀ n ∈ z2, (Lit.int .i64 n).wf = true) (y2 : len2 * 8 ≤ 140737488351232) :
    Calls Try.prog 12 #[.slice a0 len0 cap0, .slice a1 len1 cap1, .slice a2 len2 cap2] w fun e w' => e = .returned (.bool true) ∧ Below w.heap.size w w' := by
  obtain ⟨l0, rfl, hr0, hm0, hw0, hc0⟩ := ReadsInt.ofRowC w0
  obtain ⟨l1, rfl, hr1, hm1, hw1, hc1⟩ := ReadsInt.ofRowC w1
  obtain ⟨l2, rfl, hr2, hm2, hw2, hc2⟩ := ReadsInt.ofRowC w2
  obtain ⟨k, h⟩ := P l0 l1 l2 hm0 y0 hw0 hm1 y1 hw1 hm2 y2 hw2
  refine (portagelaw11_VectorOrders.calls k _ _ l0 _ _ l1 _ _ l2 true w (Kd.C_of_reads (d := (0 : Int)) (h1 := fun _ => rfl) hr0) hc0 (Kd.C_of_reads (d := (0 : Int)) (h1 := fun _ => rfl) hr1) hc1 (Kd.C_of_reads (d := (0 : Int)) (h1 := fun _ => rfl) hr2) hc2 h).mono ?_
  rintro e w' ⟨rfl, hd⟩
  exact ⟨rfl, hd⟩

end Go.Proofs.Ytnjbbfcknijcnaa.O
