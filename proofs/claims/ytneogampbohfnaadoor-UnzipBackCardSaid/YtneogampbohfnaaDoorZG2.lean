-- Written by a program of this session out of the translation (a changed copy of the kit's printer).
import Derived.Test.YtneogampbohfnaaDoorZG0
namespace Go.Proofs.YtneogampbohfnaaDoor.ZG
open Go.Proofs.YtneogampbohfnaaDoor.ZB (S39 z39 k39 k39_open k39_openM k39_mk k39_mkM rd_T39 at_T39)
open Go.RowKit Go.Proofs.YtneogampbohfnaaDoorW.PrintWords Go.Proofs.YtneogampbohfnaaDoorW.PrintLast Go.Proofs.YtneogampbohfnaaDoorW.PrintMore
attribute [local go_sem] max2_int min2_int max_two min_two max_three min_three max_four min_four   -- for this text's walks alone
set_option linter.unusedVariables false
set_option linter.unusedSimpArgs false

/-! ### vector_Node: function 76 -/
def vector_Node.f (a0 : Int) : Option (Bool) := if a0 ≥ 0 then (some (decide (a0 < 4))) else (some false)
set_option maxHeartbeats 8000000 in
set_option maxRecDepth 100000 in
theorem vector_Node.calls (a0 : Int) (r : Bool) (w : World) (h : vector_Node.f a0 = some r) :
  Calls Tryd.prog 76 #[.int .i64 a0] w fun e w' => e = .returned (.bool r) ∧ Drawn0 w w' := by
 have H : (if a0 ≥ 0 then (some (decide (a0 < 4))) else (some false)) = some r := h
 clear h
 by_cases c2 : a0 ≥ 0
 ·rw [if_pos c2] at H
  have c2b0 : decide (0 ≤ a0) = true := decide_eq_true c2
  clear c2
  obtain rfl := Option.some.inj H
  go_enter Tryd.func76, Tryd.ntmps76
  go_wp2
  go_ret
  exact ⟨by first | rfl | (simp; done) | (simp [*]; done), by repeat (first | exact Drawn0.refl _ | apply Drawn0.step)⟩
 ·rw [if_neg c2] at H
  have c2b0 : decide (0 ≤ a0) = false := decide_eq_false c2
  clear c2
  obtain rfl := Option.some.inj H
  go_enter Tryd.func76, Tryd.ntmps76
  go_wp2
  go_ret
  exact ⟨by first | rfl | (simp; done) | (simp [*]; done), by repeat (first | exact Drawn0.refl _ | apply Drawn0.step)⟩

/-! ### vector_Count: function 85 -/
def vector_Count.f (a0 : Int) : Option (Bool) := if a0 ≥ 0 then (some (decide (a0 ≤ 1048576))) else (some false)
set_option maxHeartbeats 8000000 in
set_option maxRecDepth 100000 in
theorem vector_Count.calls (a0 : Int) (r : Bool) (w : World) (h : vector_Count.f a0 = some r) :
  Calls Tryd.prog 85 #[.int .i64 a0] w fun e w' => e = .returned (.bool r) ∧ Drawn0 w w' := by
 have H : (if a0 ≥ 0 then (some (decide (a0 ≤ 1048576))) else (some false)) = some r := h
 clear h
 by_cases c2 : a0 ≥ 0
 ·rw [if_pos c2] at H
  have c2b0 : decide (0 ≤ a0) = true := decide_eq_true c2
  clear c2
  obtain rfl := Option.some.inj H
  go_enter Tryd.func85, Tryd.ntmps85
  go_wp2
  go_ret
  exact ⟨by first | rfl | (simp; done) | (simp [*]; done), by repeat (first | exact Drawn0.refl _ | apply Drawn0.step)⟩
 ·rw [if_neg c2] at H
  have c2b0 : decide (0 ≤ a0) = false := decide_eq_false c2
  clear c2
  obtain rfl := Option.some.inj H
  go_enter Tryd.func85, Tryd.ntmps85
  go_wp2
  go_ret
  exact ⟨by first | rfl | (simp; done) | (simp [*]; done), by repeat (first | exact Drawn0.refl _ | apply Drawn0.step)⟩

/-! ### vector_May_1: function 110 -/
def vector_May_1.f (a0 : Int) : Option (Bool) := (vector_Count.f a0).bind fun t103 => (some (!t103))
set_option maxHeartbeats 8000000 in
set_option maxRecDepth 100000 in
theorem vector_May_1.calls (a0 : Int) (r : Bool) (w : World) (h : vector_May_1.f a0 = some r) :
  Calls Tryd.prog 110 #[.int .i64 a0] w fun e w' => e = .returned (.bool r) ∧ Drawn0 w w' := by
 have H : ((vector_Count.f a0).bind fun t103 => (some (!t103))) = some r := h
 clear h
 replace H := Option.bind_eq_some_iff.mp H
 obtain ⟨t103, A20, H⟩ := H
 replace H : (some (!t103)) = some r := H
 have A2 := qas A20
 clear A20
 obtain rfl := Option.some.inj H
 go_enter Tryd.func110, Tryd.ntmps110
 go_wp2_with (first | ((with_reducible refine gate_callee (f := 85) rfl ?_); refine goesL_ (some 4) rfl rfl Tryd.func85 (by kernel_rfl) rfl #[.int .i64 a0] rfl (by (try simp only [List.map_toArray, List.map_cons, List.map_nil]); first | done | rfl | (simp only [List.length_drop, List.length_take]; rfl)) ?_; (with_reducible refine (vector_Count.calls a0 t103 _ A2.out).mono ?_); rintro e w' ⟨rfl, ⟨nd, rfl⟩⟩; refine ⟨_, rfl, ?_⟩))
 go_ret
 exact ⟨by first | rfl | (simp; done) | (simp [*]; done), by repeat (first | exact Drawn0.refl _ | apply Drawn0.step)⟩

/-! ### slices_IndexFunc_int_int_F110: function 121 -/
def slices_IndexFunc_int_int_F110.l0 : Nat → List Int → Int → Int → Option (Int)
 | 0, _, _, _ => none
 | k + 1, x0, x7, x8 => if x8 < x7 then (if 0 ≤ x8 then (if x8 < (x0.length : Int) then ((vector_May_1.f (rd x0 x8)).bind fun t105 => (if t105 = true then (some x8) else (slices_IndexFunc_int_int_F110.l0 k x0 x7 (wrap64 (x8 + 1))))) else (none)) else (none)) else (some (-1))
def slices_IndexFunc_int_int_F110.f (k : Nat) (l0 : List Int)  : Option (Int) := slices_IndexFunc_int_int_F110.l0 k l0 (l0.length : Int) 0
theorem slices_IndexFunc_int_int_F110.mono_l : ∀ k, (∀ y0 y1 y2, LeO (slices_IndexFunc_int_int_F110.l0 k y0 y1 y2) (slices_IndexFunc_int_int_F110.l0 (k + 1) y0 y1 y2))
 | 0 => fun _ _ _ r h => by simp [slices_IndexFunc_int_int_F110.l0] at h
 | k + 1 => by
  have ih0 := slices_IndexFunc_int_int_F110.mono_l k
  ·intro y0 y1 y2
   unfold slices_IndexFunc_int_int_F110.l0
   repeat' first
   | (with_reducible exact ih0 _ _ _)
   | (with_reducible exact LeO.refl _)
   | (with_reducible exact LeO.none _)
   | (with_reducible refine LeO.ite ?_ ?_)
   | (with_reducible refine LeO.bind ?_ (fun _ => ?_))
   | exact ih0 _ _ _
   | exact LeO.none _
   | refine LeO.ite ?_ ?_
   | refine LeO.bind ?_ (fun _ => ?_)
theorem slices_IndexFunc_int_int_F110.mono : ∀ a0 k, LeO (slices_IndexFunc_int_int_F110.f k a0) (slices_IndexFunc_int_int_F110.f (k + 1) a0) := by
 intro a0 k
 have ih0 := slices_IndexFunc_int_int_F110.mono_l k
 unfold slices_IndexFunc_int_int_F110.f
 repeat' first
   | (with_reducible exact ih0 _ _ _)
   | (with_reducible exact LeO.refl _)
   | (with_reducible exact LeO.none _)
   | (with_reducible refine LeO.ite ?_ ?_)
   | (with_reducible refine LeO.bind ?_ (fun _ => ?_))
   | exact ih0 _ _ _
   | exact LeO.none _
   | refine LeO.ite ?_ ?_
   | refine LeO.bind ?_ (fun _ => ?_)
set_option maxHeartbeats 8000000 in
set_option maxRecDepth 100000 in
theorem slices_IndexFunc_int_int_F110.calls (k : Nat) (A0 : Option Addr) (c0 : Nat) (l0 : List Int)  (r : Int) (w : World) (hr0 : Kd.C (Kd.int .i64) w A0 l0.length l0) (hc0 : l0.length ≤ c0) (h : slices_IndexFunc_int_int_F110.f k l0 = some r) :
  Calls Tryd.prog 121 #[.slice A0 l0.length c0, .func (.func 110) #[] #[]] w fun e w' => e = .returned (.int .i64 r) ∧ Drawn0 w w' := by
 have HR0 := qas hr0
 have HC0 := qas hc0
 clear hr0 hc0
 have H : (slices_IndexFunc_int_int_F110.l0 k l0 (l0.length : Int) 0) = some r := h
 clear h
 have H' := qas H
 clear H
 go_enter Tryd.func121, Tryd.ntmps121
 go_wp2
 go_loopg [8] k (fun kq v8 w' => ∃ (x8_1 : Int), v8 = .int .i64 x8_1 ∧ Aside0 (slices_IndexFunc_int_int_F110.l0 kq l0 (l0.length : Int) x8_1 = some r) ∧ Aside0 (kq ≤ k) ∧ Drawn0 w w')
 case atStart => exact ⟨(0), (by first | rfl | (simp; done) | (simp [*]; done)), H', ⟨Nat.le_refl _⟩, by repeat (first | exact Drawn0.refl _ | apply Drawn0.step)⟩
 case round =>
  clear H'
  try clear p2
  obtain ⟨x8_1, rfl, HA, HK1, ⟨m1, rfl⟩⟩ := hrel
  cases gk with
  | zero => exact absurd HA.out (by simp [slices_IndexFunc_int_int_F110.l0])
  | succ k1 =>
   have H := HA.out
   clear HA
   simp only [slices_IndexFunc_int_int_F110.l0] at H
   by_cases c3 : x8_1 < (l0.length : Int)
   ·rw [if_pos c3] at H
    have c3b0 : decide (x8_1 < (l0.length : Int)) = true := decide_eq_true c3
    clear c3
    by_cases c4 : 0 ≤ x8_1
    ·rw [if_pos c4] at H
     have c4b0 : decide (0 ≤ x8_1) = true := decide_eq_true c4
     clear c4
     by_cases c5 : x8_1 < (l0.length : Int)
     ·rw [if_pos c5] at H
      have c5b0 : decide (x8_1 < (l0.length : Int)) = true := decide_eq_true c5
      clear c5
      replace H := Option.bind_eq_some_iff.mp H
      obtain ⟨t105, A60, H⟩ := H
      replace H : (if t105 = true then (some x8_1) else (slices_IndexFunc_int_int_F110.l0 k1 l0 (l0.length : Int) (wrap64 (x8_1 + 1)))) = some r := H
      have A6 := qas A60
      clear A60
      by_cases c7 : t105 = true
      ·subst c7
       have H1 : (some x8_1) = some r := by rw [if_pos rfl] at H; exact H
       clear H
       have H := H1
       clear H1
       obtain rfl := Option.some.inj H
       have p104 : 0 ≤ (x8_1 : Int) := qde (by first | (with_reducible assumption) | assumption)
       have q104 : x8_1 < (l0.length : Int) := qde (by first | (with_reducible assumption) | assumption)
       obtain ⟨ad104, e104, hx104_0⟩ := Kd.at_int HR0.out x8_1 p104 q104
       cases e104
       replace p104 := eq_true p104
       replace q104 := eq_true q104
       go_wp2_with (first | (go_at_call 110; (with_reducible refine (vector_May_1.calls (rd l0 x8_1) true _ A6.out).mono ?_); rintro e w' ⟨rfl, ⟨nd, rfl⟩⟩))
       go_ret
       exact ⟨by first | rfl | (simp; done) | (simp [*]; done), by repeat (first | exact Drawn0.refl _ | apply Drawn0.step)⟩
      ·replace c7 := Bool.eq_false_iff.mpr c7
       subst c7
       have H1 : (slices_IndexFunc_int_int_F110.l0 k1 l0 (l0.length : Int) (wrap64 (x8_1 + 1))) = some r := by rw [if_neg (show ¬ (false = true) by decide)] at H; exact H
       clear H
       have H := H1
       clear H1
       have H' := qas H
       clear H
       have p104 : 0 ≤ (x8_1 : Int) := qde (by first | (with_reducible assumption) | assumption)
       have q104 : x8_1 < (l0.length : Int) := qde (by first | (with_reducible assumption) | assumption)
       obtain ⟨ad104, e104, hx104_0⟩ := Kd.at_int HR0.out x8_1 p104 q104
       cases e104
       replace p104 := eq_true p104
       replace q104 := eq_true q104
       go_wp2_with (first | (go_at_call 110; (with_reducible refine (vector_May_1.calls (rd l0 x8_1) false _ A6.out).mono ?_); rintro e w' ⟨rfl, ⟨nd, rfl⟩⟩))
       go_roundg k1
       case measure => have := HK1.out; omega
       case rel => exact ⟨(wrap64 (x8_1 + 1)), (by first | rfl | (simp; done) | (simp [*]; done)), H', ⟨by have := HK1.out; omega⟩, by repeat (first | exact Drawn0.refl _ | apply Drawn0.step)⟩
     ·rw [if_neg c5] at H
      exact absurd H (by simp)
    ·rw [if_neg c4] at H
     exact absurd H (by simp)
   ·rw [if_neg c3] at H
    have c3b0 : decide (x8_1 < (l0.length : Int)) = false := decide_eq_false c3
    clear c3
    obtain rfl := Option.some.inj H
    go_wp2
    go_ret
    exact ⟨by first | rfl | (simp; done) | (simp [*]; done), by repeat (first | exact Drawn0.refl _ | apply Drawn0.step)⟩

/-! ### slices_ContainsFunc_int_int_F110: function 109 -/
def slices_ContainsFunc_int_int_F110.f (k : Nat) (l0 : List Int)  : Option (Bool) := (slices_IndexFunc_int_int_F110.f k l0).bind fun t106 => (some (decide (t106 ≥ 0)))
theorem slices_ContainsFunc_int_int_F110.mono : ∀ a0 k, LeO (slices_ContainsFunc_int_int_F110.f k a0) (slices_ContainsFunc_int_int_F110.f (k + 1) a0) := by
 intro a0 k
 unfold slices_ContainsFunc_int_int_F110.f
 repeat' first
   | (with_reducible exact slices_IndexFunc_int_int_F110.mono _ _)
   | (with_reducible exact LeO.refl _)
   | (with_reducible exact LeO.none _)
   | (with_reducible refine LeO.ite ?_ ?_)
   | (with_reducible refine LeO.bind ?_ (fun _ => ?_))
   | exact slices_IndexFunc_int_int_F110.mono _ _
   | exact LeO.none _
   | refine LeO.ite ?_ ?_
   | refine LeO.bind ?_ (fun _ => ?_)
set_option maxHeartbeats 8000000 in
set_option maxRecDepth 100000 in
theorem slices_ContainsFunc_int_int_F110.calls (k : Nat) (A0 : Option Addr) (c0 : Nat) (l0 : List Int)  (r : Bool) (w : World) (hr0 : Kd.C (Kd.int .i64) w A0 l0.length l0) (hc0 : l0.length ≤ c0) (h : slices_ContainsFunc_int_int_F110.f k l0 = some r) :
  Calls Tryd.prog 109 #[.slice A0 l0.length c0, .func (.func 110) #[] #[]] w fun e w' => e = .returned (.bool r) ∧ Drawn0 w w' := by
 have HR0 := qas hr0
 have HC0 := qas hc0
 clear hr0 hc0
 have H : ((slices_IndexFunc_int_int_F110.f k l0).bind fun t106 => (some (decide (t106 ≥ 0)))) = some r := h
 clear h
 replace H := Option.bind_eq_some_iff.mp H
 obtain ⟨t106, A30, H⟩ := H
 replace H : (some (decide (t106 ≥ 0))) = some r := H
 have A3 := qas A30
 clear A30
 obtain rfl := Option.some.inj H
 go_enter Tryd.func109, Tryd.ntmps109
 go_wp2_with (first | ((with_reducible refine gate_callee (f := 121) rfl ?_); refine goesL_ (some 7) rfl rfl Tryd.func121 (by kernel_rfl) rfl #[.slice A0 l0.length c0, .func (.func 110) #[] #[]] rfl (by (try simp only [List.map_toArray, List.map_cons, List.map_nil]); first | done | rfl | (simp only [List.length_drop, List.length_take]; rfl)) ?_; (with_reducible refine (slices_IndexFunc_int_int_F110.calls k _ _ l0  t106 _ ?side1 ?side2 A3.out).mono ?_); (case side1 => repeat (first | exact HR0.out | (with_reducible refine Kd.C_alloc ?_ _) | (with_reducible refine Kd.C_drewN ?_ _) | (with_reducible refine Kd.C_drew ?_))); (case side2 => exact HC0.out); rintro e w' ⟨rfl, ⟨nd, rfl⟩⟩; refine ⟨_, rfl, ?_⟩))
 go_ret
 exact ⟨by first | rfl | (simp; done) | (simp [*]; done), by repeat (first | exact Drawn0.refl _ | apply Drawn0.step)⟩

/-! ### vector_May: function 84 -/
def vector_May.f (k : Nat) (l0 : List Int) : Option (Bool) := if (l0.length : Int) = 4 then ((slices_ContainsFunc_int_int_F110.f k l0).bind fun t107 => (some (!t107))) else (some false)
theorem vector_May.mono : ∀ a0 k, LeO (vector_May.f k a0) (vector_May.f (k + 1) a0) := by
 intro a0 k
 unfold vector_May.f
 repeat' first
   | (with_reducible exact slices_ContainsFunc_int_int_F110.mono _ _)
   | (with_reducible exact LeO.refl _)
   | (with_reducible exact LeO.none _)
   | (with_reducible refine LeO.ite ?_ ?_)
   | (with_reducible refine LeO.bind ?_ (fun _ => ?_))
   | exact slices_ContainsFunc_int_int_F110.mono _ _
   | exact LeO.none _
   | refine LeO.ite ?_ ?_
   | refine LeO.bind ?_ (fun _ => ?_)
set_option maxHeartbeats 8000000 in
set_option maxRecDepth 100000 in
theorem vector_May.calls (k : Nat) (A0 : Option Addr) (c0 : Nat) (l0 : List Int) (r : Bool) (w : World) (hr0 : Kd.C (Kd.int .i64) w A0 l0.length l0) (hc0 : l0.length ≤ c0) (h : vector_May.f k l0 = some r) :
  Calls Tryd.prog 84 #[.slice A0 l0.length c0] w fun e w' => e = .returned (.bool r) ∧ Drawn0 w w' := by
 have HR0 := qas hr0
 have HC0 := qas hc0
 clear hr0 hc0
 have H : (if (l0.length : Int) = 4 then ((slices_ContainsFunc_int_int_F110.f k l0).bind fun t107 => (some (!t107))) else (some false)) = some r := h
 clear h
 by_cases c2 : (l0.length : Int) = 4
 ·rw [if_pos c2] at H
  have c2b0 : ((l0.length : Int) == 4) = true := beq_iff_eq.mpr c2
  have c2b1 : ((l0.length : Int) != 4) = false := bne_eq_false_iff_eq.mpr c2
  clear c2
  replace H := Option.bind_eq_some_iff.mp H
  obtain ⟨t107, A30, H⟩ := H
  replace H : (some (!t107)) = some r := H
  have A3 := qas A30
  clear A30
  obtain rfl := Option.some.inj H
  go_enter Tryd.func84, Tryd.ntmps84
  go_wp2_with (first | (go_at_call 109; (with_reducible refine (slices_ContainsFunc_int_int_F110.calls k _ _ l0  t107 _ ?side1 ?side2 A3.out).mono ?_); (case side1 => repeat (first | exact HR0.out | (with_reducible refine Kd.C_alloc ?_ _) | (with_reducible refine Kd.C_drewN ?_ _) | (with_reducible refine Kd.C_drew ?_))); (case side2 => exact HC0.out); rintro e w' ⟨rfl, ⟨nd, rfl⟩⟩))
  go_ret
  exact ⟨by first | rfl | (simp; done) | (simp [*]; done), by repeat (first | exact Drawn0.refl _ | apply Drawn0.step)⟩
 ·rw [if_neg c2] at H
  have c2b0 : ((l0.length : Int) == 4) = false := beq_eq_false_iff_ne.mpr c2
  have c2b1 : ((l0.length : Int) != 4) = true := bne_iff_ne.mpr c2
  obtain rfl := Option.some.inj H
  go_enter Tryd.func84, Tryd.ntmps84
  go_wp2
  go_ret
  exact ⟨by first | rfl | (simp; done) | (simp [*]; done), by repeat (first | exact Drawn0.refl _ | apply Drawn0.step)⟩

/-! ### extra_May: function 56 -/
def extra_May.f (k : Nat) (a0_0 : ByteArray) (a0_1 : Bool) (l0_2 : List Int) (a0_3 : Int) (a0_4 : Int) (a0_5 : Int) (a0_6 : ByteArray) (a0_7 : Int) (a0_8 : Int) : Option (Bool) := (vector_May.f k l0_2).bind fun t108 => (if t108 = true then (if a0_3 ≥ 1 then ((vector_Count.f a0_3).bind fun t109 => (if t109 = true then ((vector_Node.f a0_4).bind fun t110 => (some t110)) else (some false))) else (some false)) else (some false))
theorem extra_May.mono : ∀ a0 a1 a2 a3 a4 a5 a6 a7 a8 k, LeO (extra_May.f k a0 a1 a2 a3 a4 a5 a6 a7 a8) (extra_May.f (k + 1) a0 a1 a2 a3 a4 a5 a6 a7 a8) := by
 intro a0 a1 a2 a3 a4 a5 a6 a7 a8 k
 unfold extra_May.f
 repeat' first
   | (with_reducible exact vector_May.mono _ _)
   | (with_reducible exact LeO.refl _)
   | (with_reducible exact LeO.none _)
   | (with_reducible refine LeO.ite ?_ ?_)
   | (with_reducible refine LeO.bind ?_ (fun _ => ?_))
   | exact vector_May.mono _ _
   | exact LeO.none _
   | refine LeO.ite ?_ ?_
   | refine LeO.bind ?_ (fun _ => ?_)
set_option maxHeartbeats 8000000 in
set_option maxRecDepth 100000 in
theorem extra_May.calls (k : Nat) (g : Nat) (a0_0 : ByteArray) (a0_1 : Bool) (A0_2 : Option Addr) (c0_2 : Nat) (l0_2 : List Int) (a0_3 : Int) (a0_4 : Int) (a0_5 : Int) (a0_6 : ByteArray) (a0_7 : Int) (a0_8 : Int) (r : Bool) (w : World) (hr0_2 : Kd.C (Kd.int .i64) w A0_2 l0_2.length l0_2) (hc0_2 : l0_2.length ≤ c0_2) (hbk : w.heap[g]? = some (.cells #[.string a0_0, .bool a0_1, .slice A0_2 l0_2.length c0_2, .int .i64 a0_3, .int .i64 a0_4, .int .i64 a0_5, .string a0_6, .int .i64 a0_7, .int .i64 a0_8] 39 (0, 0))) (h : extra_May.f k a0_0 a0_1 l0_2 a0_3 a0_4 a0_5 a0_6 a0_7 a0_8 = some r) :
  Calls Tryd.prog 56 #[.pointer (some ⟨g, 0, none⟩)] w fun e w' => e = .returned (.bool r) ∧ Below w.heap.size w w' := by
 have HR0_2 := qas hr0_2
 have HC0_2 := qas hc0_2
 clear hr0_2 hc0_2
 have BK0 := qas hbk
 clear hbk
 have HB := qas (Below.refl w.heap.size w)
 have H : ((vector_May.f k l0_2).bind fun t108 => (if t108 = true then (if a0_3 ≥ 1 then ((vector_Count.f a0_3).bind fun t109 => (if t109 = true then ((vector_Node.f a0_4).bind fun t110 => (some t110)) else (some false))) else (some false)) else (some false))) = some r := h
 clear h
 replace H := Option.bind_eq_some_iff.mp H
 obtain ⟨t108, A20, H⟩ := H
 replace H : (if t108 = true then (if a0_3 ≥ 1 then ((vector_Count.f a0_3).bind fun t109 => (if t109 = true then ((vector_Node.f a0_4).bind fun t110 => (some t110)) else (some false))) else (some false)) else (some false)) = some r := H
 have A2 := qas A20
 clear A20
 by_cases c3 : t108 = true
 ·subst c3
  have H1 : (if a0_3 ≥ 1 then ((vector_Count.f a0_3).bind fun t109 => (if t109 = true then ((vector_Node.f a0_4).bind fun t110 => (some t110)) else (some false))) else (some false)) = some r := by rw [if_pos rfl] at H; exact H
  clear H
  have H := H1
  clear H1
  by_cases c4 : a0_3 ≥ 1
  ·rw [if_pos c4] at H
   have c4b0 : decide (1 ≤ a0_3) = true := decide_eq_true c4
   clear c4
   replace H := Option.bind_eq_some_iff.mp H
   obtain ⟨t109, A50, H⟩ := H
   replace H : (if t109 = true then ((vector_Node.f a0_4).bind fun t110 => (some t110)) else (some false)) = some r := H
   have A5 := qas A50
   clear A50
   by_cases c6 : t109 = true
   ·subst c6
    have H1 : ((vector_Node.f a0_4).bind fun t110 => (some t110)) = some r := by rw [if_pos rfl] at H; exact H
    clear H
    have H := H1
    clear H1
    replace H := Option.bind_eq_some_iff.mp H
    obtain ⟨t110, A70, H⟩ := H
    replace H : (some t110) = some r := H
    have A7 := qas A70
    clear A70
    obtain rfl := Option.some.inj H
    have hcz8_0 : w.cell? ⟨g, 0, none⟩ = some (.string a0_0) := (blk_cell BK0.out 0).trans rfl
    have hcz8_1 : w.cell? ⟨g, 1, none⟩ = some (.bool a0_1) := (blk_cell BK0.out 1).trans rfl
    have hcz8_2 : w.cell? ⟨g, 2, none⟩ = some (.slice A0_2 l0_2.length c0_2) := (blk_cell BK0.out 2).trans rfl
    have hcz8_3 : w.cell? ⟨g, 3, none⟩ = some (.int .i64 a0_3) := (blk_cell BK0.out 3).trans rfl
    have hcz8_4 : w.cell? ⟨g, 4, none⟩ = some (.int .i64 a0_4) := (blk_cell BK0.out 4).trans rfl
    have hcz8_5 : w.cell? ⟨g, 5, none⟩ = some (.int .i64 a0_5) := (blk_cell BK0.out 5).trans rfl
    have hcz8_6 : w.cell? ⟨g, 6, none⟩ = some (.string a0_6) := (blk_cell BK0.out 6).trans rfl
    have hcz8_7 : w.cell? ⟨g, 7, none⟩ = some (.int .i64 a0_7) := (blk_cell BK0.out 7).trans rfl
    have hcz8_8 : w.cell? ⟨g, 8, none⟩ = some (.int .i64 a0_8) := (blk_cell BK0.out 8).trans rfl
    have hfz8_0 := blk_frozen BK0.out 0
    have hfz8_1 := blk_frozen BK0.out 1
    have hfz8_2 := blk_frozen BK0.out 2
    have hfz8_3 := blk_frozen BK0.out 3
    have hfz8_4 := blk_frozen BK0.out 4
    have hfz8_5 := blk_frozen BK0.out 5
    have hfz8_6 := blk_frozen BK0.out 6
    have hfz8_7 := blk_frozen BK0.out 7
    have hfz8_8 := blk_frozen BK0.out 8
    go_enter Tryd.func56, Tryd.ntmps56
    go_wp2_with (first | ((with_reducible refine gate_callee (f := 84) rfl ?_); refine goesL_ (some 7) rfl rfl Tryd.func84 (by kernel_rfl) rfl #[.slice A0_2 l0_2.length c0_2] rfl (by (try simp only [List.map_toArray, List.map_cons, List.map_nil]); first | done | rfl | (simp only [List.length_drop, List.length_take]; rfl)) ?_; (with_reducible refine (vector_May.calls k _ _ l0_2 true _ ?side1 ?side2 A2.out).mono ?_); (case side1 => repeat (first | exact HR0_2.out | (with_reducible refine Kd.C_alloc ?_ _) | (with_reducible refine Kd.C_drewN ?_ _) | (with_reducible refine Kd.C_drew ?_))); (case side2 => exact HC0_2.out); rintro e w' ⟨rfl, ⟨nd, rfl⟩⟩; refine ⟨_, rfl, ?_⟩) | (go_at_call 85; (with_reducible refine (vector_Count.calls a0_3 true _ A5.out).mono ?_); rintro e w' ⟨rfl, ⟨nd, rfl⟩⟩) | (go_at_call 76; (with_reducible refine (vector_Node.calls a0_4 t110 _ A7.out).mono ?_); rintro e w' ⟨rfl, ⟨nd, rfl⟩⟩))
    go_ret
    exact ⟨by first | rfl | (simp [errW_none, errW_some] <;> rfl) | (simp [*, errW_none, errW_some] <;> rfl), by repeat (first | (with_reducible first | exact HB.out | apply qbA | apply qbB | apply qbC | refine below_set ?_ GE0.out) | exact HB.out)⟩
   ·replace c6 := Bool.eq_false_iff.mpr c6
    subst c6
    have H1 : (some false) = some r := by rw [if_neg (show ¬ (false = true) by decide)] at H; exact H
    clear H
    have H := H1
    clear H1
    obtain rfl := Option.some.inj H
    have hcz9_0 : w.cell? ⟨g, 0, none⟩ = some (.string a0_0) := (blk_cell BK0.out 0).trans rfl
    have hcz9_1 : w.cell? ⟨g, 1, none⟩ = some (.bool a0_1) := (blk_cell BK0.out 1).trans rfl
    have hcz9_2 : w.cell? ⟨g, 2, none⟩ = some (.slice A0_2 l0_2.length c0_2) := (blk_cell BK0.out 2).trans rfl
    have hcz9_3 : w.cell? ⟨g, 3, none⟩ = some (.int .i64 a0_3) := (blk_cell BK0.out 3).trans rfl
    have hcz9_4 : w.cell? ⟨g, 4, none⟩ = some (.int .i64 a0_4) := (blk_cell BK0.out 4).trans rfl
    have hcz9_5 : w.cell? ⟨g, 5, none⟩ = some (.int .i64 a0_5) := (blk_cell BK0.out 5).trans rfl
    have hcz9_6 : w.cell? ⟨g, 6, none⟩ = some (.string a0_6) := (blk_cell BK0.out 6).trans rfl
    have hcz9_7 : w.cell? ⟨g, 7, none⟩ = some (.int .i64 a0_7) := (blk_cell BK0.out 7).trans rfl
    have hcz9_8 : w.cell? ⟨g, 8, none⟩ = some (.int .i64 a0_8) := (blk_cell BK0.out 8).trans rfl
    have hfz9_0 := blk_frozen BK0.out 0
    have hfz9_1 := blk_frozen BK0.out 1
    have hfz9_2 := blk_frozen BK0.out 2
    have hfz9_3 := blk_frozen BK0.out 3
    have hfz9_4 := blk_frozen BK0.out 4
    have hfz9_5 := blk_frozen BK0.out 5
    have hfz9_6 := blk_frozen BK0.out 6
    have hfz9_7 := blk_frozen BK0.out 7
    have hfz9_8 := blk_frozen BK0.out 8
    go_enter Tryd.func56, Tryd.ntmps56
    go_wp2_with (first | ((with_reducible refine gate_callee (f := 84) rfl ?_); refine goesL_ (some 7) rfl rfl Tryd.func84 (by kernel_rfl) rfl #[.slice A0_2 l0_2.length c0_2] rfl (by (try simp only [List.map_toArray, List.map_cons, List.map_nil]); first | done | rfl | (simp only [List.length_drop, List.length_take]; rfl)) ?_; (with_reducible refine (vector_May.calls k _ _ l0_2 true _ ?side1 ?side2 A2.out).mono ?_); (case side1 => repeat (first | exact HR0_2.out | (with_reducible refine Kd.C_alloc ?_ _) | (with_reducible refine Kd.C_drewN ?_ _) | (with_reducible refine Kd.C_drew ?_))); (case side2 => exact HC0_2.out); rintro e w' ⟨rfl, ⟨nd, rfl⟩⟩; refine ⟨_, rfl, ?_⟩) | (go_at_call 85; (with_reducible refine (vector_Count.calls a0_3 false _ A5.out).mono ?_); rintro e w' ⟨rfl, ⟨nd, rfl⟩⟩))
    go_ret
    exact ⟨by first | rfl | (simp [errW_none, errW_some] <;> rfl) | (simp [*, errW_none, errW_some] <;> rfl), by repeat (first | (with_reducible first | exact HB.out | apply qbA | apply qbB | apply qbC | refine below_set ?_ GE0.out) | exact HB.out)⟩
  ·rw [if_neg c4] at H
   have c4b0 : decide (1 ≤ a0_3) = false := decide_eq_false c4
   clear c4
   obtain rfl := Option.some.inj H
   have hcz10_0 : w.cell? ⟨g, 0, none⟩ = some (.string a0_0) := (blk_cell BK0.out 0).trans rfl
   have hcz10_1 : w.cell? ⟨g, 1, none⟩ = some (.bool a0_1) := (blk_cell BK0.out 1).trans rfl
   have hcz10_2 : w.cell? ⟨g, 2, none⟩ = some (.slice A0_2 l0_2.length c0_2) := (blk_cell BK0.out 2).trans rfl
   have hcz10_3 : w.cell? ⟨g, 3, none⟩ = some (.int .i64 a0_3) := (blk_cell BK0.out 3).trans rfl
   have hcz10_4 : w.cell? ⟨g, 4, none⟩ = some (.int .i64 a0_4) := (blk_cell BK0.out 4).trans rfl
   have hcz10_5 : w.cell? ⟨g, 5, none⟩ = some (.int .i64 a0_5) := (blk_cell BK0.out 5).trans rfl
   have hcz10_6 : w.cell? ⟨g, 6, none⟩ = some (.string a0_6) := (blk_cell BK0.out 6).trans rfl
   have hcz10_7 : w.cell? ⟨g, 7, none⟩ = some (.int .i64 a0_7) := (blk_cell BK0.out 7).trans rfl
   have hcz10_8 : w.cell? ⟨g, 8, none⟩ = some (.int .i64 a0_8) := (blk_cell BK0.out 8).trans rfl
   have hfz10_0 := blk_frozen BK0.out 0
   have hfz10_1 := blk_frozen BK0.out 1
   have hfz10_2 := blk_frozen BK0.out 2
   have hfz10_3 := blk_frozen BK0.out 3
   have hfz10_4 := blk_frozen BK0.out 4
   have hfz10_5 := blk_frozen BK0.out 5
   have hfz10_6 := blk_frozen BK0.out 6
   have hfz10_7 := blk_frozen BK0.out 7
   have hfz10_8 := blk_frozen BK0.out 8
   go_enter Tryd.func56, Tryd.ntmps56
   go_wp2_with (first | ((with_reducible refine gate_callee (f := 84) rfl ?_); refine goesL_ (some 7) rfl rfl Tryd.func84 (by kernel_rfl) rfl #[.slice A0_2 l0_2.length c0_2] rfl (by (try simp only [List.map_toArray, List.map_cons, List.map_nil]); first | done | rfl | (simp only [List.length_drop, List.length_take]; rfl)) ?_; (with_reducible refine (vector_May.calls k _ _ l0_2 true _ ?side1 ?side2 A2.out).mono ?_); (case side1 => repeat (first | exact HR0_2.out | (with_reducible refine Kd.C_alloc ?_ _) | (with_reducible refine Kd.C_drewN ?_ _) | (with_reducible refine Kd.C_drew ?_))); (case side2 => exact HC0_2.out); rintro e w' ⟨rfl, ⟨nd, rfl⟩⟩; refine ⟨_, rfl, ?_⟩))
   go_ret
   exact ⟨by first | rfl | (simp [errW_none, errW_some] <;> rfl) | (simp [*, errW_none, errW_some] <;> rfl), by repeat (first | (with_reducible first | exact HB.out | apply qbA | apply qbB | apply qbC | refine below_set ?_ GE0.out) | exact HB.out)⟩
 ·replace c3 := Bool.eq_false_iff.mpr c3
  subst c3
  have H1 : (some false) = some r := by rw [if_neg (show ¬ (false = true) by decide)] at H; exact H
  clear H
  have H := H1
  clear H1
  obtain rfl := Option.some.inj H
  have hcz11_0 : w.cell? ⟨g, 0, none⟩ = some (.string a0_0) := (blk_cell BK0.out 0).trans rfl
  have hcz11_1 : w.cell? ⟨g, 1, none⟩ = some (.bool a0_1) := (blk_cell BK0.out 1).trans rfl
  have hcz11_2 : w.cell? ⟨g, 2, none⟩ = some (.slice A0_2 l0_2.length c0_2) := (blk_cell BK0.out 2).trans rfl
  have hcz11_3 : w.cell? ⟨g, 3, none⟩ = some (.int .i64 a0_3) := (blk_cell BK0.out 3).trans rfl
  have hcz11_4 : w.cell? ⟨g, 4, none⟩ = some (.int .i64 a0_4) := (blk_cell BK0.out 4).trans rfl
  have hcz11_5 : w.cell? ⟨g, 5, none⟩ = some (.int .i64 a0_5) := (blk_cell BK0.out 5).trans rfl
  have hcz11_6 : w.cell? ⟨g, 6, none⟩ = some (.string a0_6) := (blk_cell BK0.out 6).trans rfl
  have hcz11_7 : w.cell? ⟨g, 7, none⟩ = some (.int .i64 a0_7) := (blk_cell BK0.out 7).trans rfl
  have hcz11_8 : w.cell? ⟨g, 8, none⟩ = some (.int .i64 a0_8) := (blk_cell BK0.out 8).trans rfl
  have hfz11_0 := blk_frozen BK0.out 0
  have hfz11_1 := blk_frozen BK0.out 1
  have hfz11_2 := blk_frozen BK0.out 2
  have hfz11_3 := blk_frozen BK0.out 3
  have hfz11_4 := blk_frozen BK0.out 4
  have hfz11_5 := blk_frozen BK0.out 5
  have hfz11_6 := blk_frozen BK0.out 6
  have hfz11_7 := blk_frozen BK0.out 7
  have hfz11_8 := blk_frozen BK0.out 8
  go_enter Tryd.func56, Tryd.ntmps56
  go_wp2_with (first | ((with_reducible refine gate_callee (f := 84) rfl ?_); refine goesL_ (some 7) rfl rfl Tryd.func84 (by kernel_rfl) rfl #[.slice A0_2 l0_2.length c0_2] rfl (by (try simp only [List.map_toArray, List.map_cons, List.map_nil]); first | done | rfl | (simp only [List.length_drop, List.length_take]; rfl)) ?_; (with_reducible refine (vector_May.calls k _ _ l0_2 false _ ?side1 ?side2 A2.out).mono ?_); (case side1 => repeat (first | exact HR0_2.out | (with_reducible refine Kd.C_alloc ?_ _) | (with_reducible refine Kd.C_drewN ?_ _) | (with_reducible refine Kd.C_drew ?_))); (case side2 => exact HC0_2.out); rintro e w' ⟨rfl, ⟨nd, rfl⟩⟩; refine ⟨_, rfl, ?_⟩))
  go_ret
  exact ⟨by first | rfl | (simp [errW_none, errW_some] <;> rfl) | (simp [*, errW_none, errW_some] <;> rfl), by repeat (first | (with_reducible first | exact HB.out | apply qbA | apply qbB | apply qbC | refine below_set ?_ GE0.out) | exact HB.out)⟩

end Go.Proofs.YtneogampbohfnaaDoor.ZG
