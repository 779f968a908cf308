-- Printed out of the translation by a program of this session.
import Derived.Test.YtneogampbohfnaaDoorZZ0
import Derived.Test.YtneogampbohfnaaDoorZipU
import Derived.Test.YtneogampbohfnaaDoorZZ12
namespace Go.Proofs.YtneogampbohfnaaDoor.ZZ
open Go.Proofs.YtneogampbohfnaaDoor.ZB (S39 z39 k39 k39_open k39_openM k39_mk k39_mkM rd_T39 at_T39)
open Go.RowKit Go.Proofs.YtneogampbohfnaaDoorW.PrintWords Go.Proofs.YtneogampbohfnaaDoorW.PrintLast Go.Proofs.YtneogampbohfnaaDoorW.PrintMore
attribute [local go_sem] max2_int min2_int max_two min_two max_three min_three max_four min_four   -- for this text's walks alone
set_option linter.unusedVariables false
set_option linter.unusedSimpArgs false

/-! ### pl_Num: function 19 -/
def pl_Num.f (a0 : Int) : Option (Int) := some a0
set_option maxHeartbeats 8000000 in
set_option maxRecDepth 100000 in
theorem pl_Num.calls (a0 : Int) (r : Int) (w : World) (h : pl_Num.f a0 = some r) :
  Calls Tryd.prog 19 #[.int .i64 a0] w fun e w' => e = .returned (.int .i64 r) ∧ Drawn0 w w' := by
 have H : (some a0) = some r := h
 clear h
 obtain rfl := Option.some.inj H
 go_enter Tryd.func19, Tryd.ntmps19
 go_wp2
 go_ret
 exact ⟨by first | rfl | (simp; done) | (simp [*]; done), by repeat (first | exact Drawn0.refl _ | apply Drawn0.step)⟩

/-! ### zipput_Size: function 20 -/
-- IMPORT Derived.Test.YtneogampbohfnaaDoorZipU
def zipput_Size.f (l0_0 : List (S39)) : Option Int := if l0_0.length ≤ 9223372036854775807 then some (ZipW.sizeR l0_0) else none
theorem zipput_Size.calls (A0_0 : Option Addr) (c0_0 : Nat) (l0_0 : List (S39)) (r : Int) (w : World) (hr0_0 : Kd.C k39 w A0_0 l0_0.length l0_0) (hc0_0 : l0_0.length ≤ c0_0) (h : zipput_Size.f l0_0 = some r) :
  Calls Tryd.prog 20 #[.agg #[.slice A0_0 l0_0.length c0_0]] w fun e w' => e = .returned (.int .i64 r) ∧ Below w.heap.size w w' := by
 unfold zipput_Size.f at h
 by_cases h1 : l0_0.length ≤ 9223372036854775807
 rotate_left
 ·rw [if_neg h1] at h
  exact absurd h (by simp)
 rw [if_pos h1] at h
 have h2 := Option.some.inj h
 subst h2
 exact ZipW.size_any A0_0 c0_0 l0_0 w hr0_0 hc0_0 h1

/-! ### pl_SameInts: function 111 -/
def pl_SameInts.l0 : Nat → List Int → List Int → Int → Option (Bool)
 | 0, _, _, _ => none
 | k + 1, x0, x1, x5 => if x5 < (x0.length : Int) then (if 0 ≤ x5 then (if x5 < (x1.length : Int) then (if (rd x0 x5) = (rd x1 x5) then (pl_SameInts.l0 k x0 x1 (wrap64 (x5 + 1))) else (some false)) else (none)) else (none)) else (some true)
def pl_SameInts.f (k : Nat) (l0 : List Int) (l1 : List Int) : Option (Bool) := if (l0.length : Int) = (l1.length : Int) then (pl_SameInts.l0 k l0 l1 0) else (some false)
theorem pl_SameInts.mono_l : ∀ k, (∀ y0 y1 y2, LeO (pl_SameInts.l0 k y0 y1 y2) (pl_SameInts.l0 (k + 1) y0 y1 y2))
 | 0 => fun _ _ _ r h => by simp [pl_SameInts.l0] at h
 | k + 1 => by
  have ih0 := pl_SameInts.mono_l k
  ·intro y0 y1 y2
   unfold pl_SameInts.l0
   repeat' first
   | (with_reducible exact ih0 _ _ _)
   | (with_reducible exact LeO.refl _)
   | (with_reducible exact LeO.none _)
   | (with_reducible refine LeO.ite ?_ ?_)
   | (with_reducible refine LeO.bind ?_ (fun _ => ?_))
   | exact ih0 _ _ _
   | exact LeO.none _
   | refine LeO.ite ?_ ?_
   | refine LeO.bind ?_ (fun _ => ?_)
theorem pl_SameInts.mono : ∀ a0 a1 k, LeO (pl_SameInts.f k a0 a1) (pl_SameInts.f (k + 1) a0 a1) := by
 intro a0 a1 k
 have ih0 := pl_SameInts.mono_l k
 unfold pl_SameInts.f
 repeat' first
   | (with_reducible exact ih0 _ _ _)
   | (with_reducible exact LeO.refl _)
   | (with_reducible exact LeO.none _)
   | (with_reducible refine LeO.ite ?_ ?_)
   | (with_reducible refine LeO.bind ?_ (fun _ => ?_))
   | exact ih0 _ _ _
   | exact LeO.none _
   | refine LeO.ite ?_ ?_
   | refine LeO.bind ?_ (fun _ => ?_)
set_option maxHeartbeats 8000000 in
set_option maxRecDepth 100000 in
theorem pl_SameInts.calls (k : Nat) (A0 : Option Addr) (c0 : Nat) (l0 : List Int) (A1 : Option Addr) (c1 : Nat) (l1 : List Int) (r : Bool) (w : World) (hr0 : Kd.C (Kd.int .i64) w A0 l0.length l0) (hc0 : l0.length ≤ c0) (hr1 : Kd.C (Kd.int .i64) w A1 l1.length l1) (hc1 : l1.length ≤ c1) (h : pl_SameInts.f k l0 l1 = some r) :
  Calls Tryd.prog 111 #[.slice A0 l0.length c0, .slice A1 l1.length c1] w fun e w' => e = .returned (.bool r) ∧ Drawn0 w w' := by
 have HR0 := qas hr0
 have HC0 := qas hc0
 clear hr0 hc0
 have HR1 := qas hr1
 have HC1 := qas hc1
 clear hr1 hc1
 have H : (if (l0.length : Int) = (l1.length : Int) then (pl_SameInts.l0 k l0 l1 0) else (some false)) = some r := h
 clear h
 by_cases c3 : (l0.length : Int) = (l1.length : Int)
 rotate_left
 ·rw [if_neg c3] at H
  have c3b0 : ((l0.length : Int) == (l1.length : Int)) = false := beq_eq_false_iff_ne.mpr c3
  have c3b1 : ((l0.length : Int) != (l1.length : Int)) = true := bne_iff_ne.mpr c3
  have c3b2 : (l0.length == l1.length) = false := by first | simpa using c3 | (simp at c3 ⊢; omega)
  obtain rfl := Option.some.inj H
  go_enter Tryd.func111, Tryd.ntmps111
  go_wp2
  repeat (go_quiet (fail); try go_wp2)
  go_ret
  exact ⟨by first | rfl | (simp; done) | (simp [*]; done), by repeat (first | exact Drawn0.refl _ | apply Drawn0.step)⟩
 rw [if_pos c3] at H
 have c3b0 : ((l0.length : Int) == (l1.length : Int)) = true := beq_iff_eq.mpr c3
 have c3b1 : ((l0.length : Int) != (l1.length : Int)) = false := bne_eq_false_iff_eq.mpr c3
 have c3b2 : (l0.length == l1.length) = true := by first | simpa using c3 | (simp at c3 ⊢; omega)
 clear c3
 have H' := qas H
 clear H
 go_enter Tryd.func111, Tryd.ntmps111
 go_wp2
 repeat (go_quiet (fail); try go_wp2)
 go_loopg [5] k (fun kq v5 w' => ∃ (x5_1 : Int), v5 = .int .i64 x5_1 ∧ Aside0 (pl_SameInts.l0 kq l0 l1 x5_1 = some r) ∧ Aside0 (kq ≤ k) ∧ Drawn0 w w')
 case atStart => exact ⟨(0), (by first | rfl | (simp; done) | (simp [*]; done)), H', ⟨Nat.le_refl _⟩, by repeat (first | exact Drawn0.refl _ | apply Drawn0.step)⟩
 case round =>
  clear H'
  try clear c1
  try clear p2
  try clear c3
  try clear c3b0
  try clear c3b1
  try clear c3b2
  obtain ⟨x5_1, rfl, HA, HK1, ⟨m1, rfl⟩⟩ := hrel
  cases gk with
  | zero => exact absurd HA.out (by simp [pl_SameInts.l0])
  | succ k1 =>
   have H := HA.out
   clear HA
   simp only [pl_SameInts.l0] at H
   by_cases c4 : x5_1 < (l0.length : Int)
   rotate_left
   ·rw [if_neg c4] at H
    have c4b0 : decide (x5_1 < (l0.length : Int)) = false := decide_eq_false c4
    clear c4
    obtain rfl := Option.some.inj H
    go_wp2
    repeat (go_quiet (fail); try go_wp2)
    go_ret
    exact ⟨by first | rfl | (simp; done) | (simp [*]; done), by repeat (first | exact Drawn0.refl _ | apply Drawn0.step)⟩
   rw [if_pos c4] at H
   have c4b0 : decide (x5_1 < (l0.length : Int)) = true := decide_eq_true c4
   clear c4
   by_cases c5 : 0 ≤ x5_1
   rotate_left
   ·rw [if_neg c5] at H
    exact absurd H (by simp)
   rw [if_pos c5] at H
   have c5b0 : decide (0 ≤ x5_1) = true := decide_eq_true c5
   clear c5
   by_cases c6 : x5_1 < (l1.length : Int)
   rotate_left
   ·rw [if_neg c6] at H
    exact absurd H (by simp)
   rw [if_pos c6] at H
   have c6b0 : decide (x5_1 < (l1.length : Int)) = true := decide_eq_true c6
   clear c6
   by_cases c7 : (rd l0 x5_1) = (rd l1 x5_1)
   rotate_left
   ·rw [if_neg c7] at H
    have c7b0 : ((rd l0 x5_1) == (rd l1 x5_1)) = false := beq_eq_false_iff_ne.mpr c7
    have c7b1 : ((rd l0 x5_1) != (rd l1 x5_1)) = true := bne_iff_ne.mpr c7
    obtain rfl := Option.some.inj H
    have p219 : 0 ≤ (x5_1 : Int) := qde (by first | (with_reducible assumption) | assumption)
    have q219 : x5_1 < (l0.length : Int) := qde (by first | (with_reducible assumption) | assumption)
    obtain ⟨ad219, e219, hx219_0⟩ := Kd.at_int HR0.out x5_1 p219 q219
    cases e219
    replace p219 := eq_true p219
    replace q219 := eq_true q219
    have p220 : 0 ≤ (x5_1 : Int) := qde (by first | (with_reducible assumption) | assumption)
    have q220 : x5_1 < (l1.length : Int) := qde (by first | (with_reducible assumption) | assumption)
    obtain ⟨ad220, e220, hx220_0⟩ := Kd.at_int HR1.out x5_1 p220 q220
    cases e220
    replace p220 := eq_true p220
    replace q220 := eq_true q220
    go_wp2
    repeat (go_quiet (fail); try go_wp2)
    go_ret
    exact ⟨by first | rfl | (simp; done) | (simp [*]; done), by repeat (first | exact Drawn0.refl _ | apply Drawn0.step)⟩
   rw [if_pos c7] at H
   have c7b0 : ((rd l0 x5_1) == (rd l1 x5_1)) = true := beq_iff_eq.mpr c7
   have c7b1 : ((rd l0 x5_1) != (rd l1 x5_1)) = false := bne_eq_false_iff_eq.mpr c7
   clear c7
   have H' := qas H
   clear H
   have p219 : 0 ≤ (x5_1 : Int) := qde (by first | (with_reducible assumption) | assumption)
   have q219 : x5_1 < (l0.length : Int) := qde (by first | (with_reducible assumption) | assumption)
   obtain ⟨ad219, e219, hx219_0⟩ := Kd.at_int HR0.out x5_1 p219 q219
   cases e219
   replace p219 := eq_true p219
   replace q219 := eq_true q219
   have p220 : 0 ≤ (x5_1 : Int) := qde (by first | (with_reducible assumption) | assumption)
   have q220 : x5_1 < (l1.length : Int) := qde (by first | (with_reducible assumption) | assumption)
   obtain ⟨ad220, e220, hx220_0⟩ := Kd.at_int HR1.out x5_1 p220 q220
   cases e220
   replace p220 := eq_true p220
   replace q220 := eq_true q220
   go_wp2
   repeat (go_quiet (fail); try go_wp2)
   go_roundg k1
   case measure => have := HK1.out; omega
   case rel => exact ⟨(wrap64 (x5_1 + 1)), (by first | rfl | (simp; done) | (simp [*]; done)), H', ⟨by have := HK1.out; omega⟩, by repeat (first | exact Drawn0.refl _ | apply Drawn0.step)⟩

/-! ### pl_SameEntry: function 88 -/
def pl_SameEntry.f (k : Nat) (a0_0 : ByteArray) (a0_1 : Bool) (l0_2 : List Int) (a0_3 : Int) (a0_4 : Int) (a0_5 : Int) (a0_6 : ByteArray) (a0_7 : Int) (a0_8 : Int) (a1_0 : ByteArray) (a1_1 : Bool) (l1_2 : List Int) (a1_3 : Int) (a1_4 : Int) (a1_5 : Int) (a1_6 : ByteArray) (a1_7 : Int) (a1_8 : Int) : Option (Bool) := if a0_0.toList = a1_0.toList then (if (a0_1 == a1_1) = true then ((pl_SameInts.f k l0_2 l1_2).bind fun t223 => (if t223 = true then (if a0_3 = a1_3 then (if a0_4 = a1_4 then (if a0_5 = a1_5 then (if a0_6.toList = a1_6.toList then (if a0_7 = a1_7 then (some (a0_8 == a1_8)) else (some false)) else (some false)) else (some false)) else (some false)) else (some false)) else (some false))) else (some false)) else (some false)
theorem pl_SameEntry.mono : ∀ a0 a1 a2 a3 a4 a5 a6 a7 a8 a9 a10 a11 a12 a13 a14 a15 a16 a17 k, LeO (pl_SameEntry.f k a0 a1 a2 a3 a4 a5 a6 a7 a8 a9 a10 a11 a12 a13 a14 a15 a16 a17) (pl_SameEntry.f (k + 1) a0 a1 a2 a3 a4 a5 a6 a7 a8 a9 a10 a11 a12 a13 a14 a15 a16 a17) := by
 intro a0 a1 a2 a3 a4 a5 a6 a7 a8 a9 a10 a11 a12 a13 a14 a15 a16 a17 k
 unfold pl_SameEntry.f
 repeat' first
   | (with_reducible exact pl_SameInts.mono _ _ _)
   | (with_reducible exact LeO.refl _)
   | (with_reducible exact LeO.none _)
   | (with_reducible refine LeO.ite ?_ ?_)
   | (with_reducible refine LeO.bind ?_ (fun _ => ?_))
   | exact pl_SameInts.mono _ _ _
   | exact LeO.none _
   | refine LeO.ite ?_ ?_
   | refine LeO.bind ?_ (fun _ => ?_)
set_option maxHeartbeats 8000000 in
set_option maxRecDepth 100000 in
theorem pl_SameEntry.calls (k : Nat) (a0_0 : ByteArray) (a0_1 : Bool) (A0_2 : Option Addr) (c0_2 : Nat) (l0_2 : List Int) (a0_3 : Int) (a0_4 : Int) (a0_5 : Int) (a0_6 : ByteArray) (a0_7 : Int) (a0_8 : Int) (a1_0 : ByteArray) (a1_1 : Bool) (A1_2 : Option Addr) (c1_2 : Nat) (l1_2 : List Int) (a1_3 : Int) (a1_4 : Int) (a1_5 : Int) (a1_6 : ByteArray) (a1_7 : Int) (a1_8 : Int) (r : Bool) (w : World) (hr0_2 : Kd.C (Kd.int .i64) w A0_2 l0_2.length l0_2) (hc0_2 : l0_2.length ≤ c0_2) (hr1_2 : Kd.C (Kd.int .i64) w A1_2 l1_2.length l1_2) (hc1_2 : l1_2.length ≤ c1_2) (h : pl_SameEntry.f k a0_0 a0_1 l0_2 a0_3 a0_4 a0_5 a0_6 a0_7 a0_8 a1_0 a1_1 l1_2 a1_3 a1_4 a1_5 a1_6 a1_7 a1_8 = some r) :
  Calls Tryd.prog 88 #[.agg #[.string a0_0, .bool a0_1, .slice A0_2 l0_2.length c0_2, .int .i64 a0_3, .int .i64 a0_4, .int .i64 a0_5, .string a0_6, .int .i64 a0_7, .int .i64 a0_8], .agg #[.string a1_0, .bool a1_1, .slice A1_2 l1_2.length c1_2, .int .i64 a1_3, .int .i64 a1_4, .int .i64 a1_5, .string a1_6, .int .i64 a1_7, .int .i64 a1_8]] w fun e w' => e = .returned (.bool r) ∧ Below w.heap.size w w' := by
 have hu39 := Tryd.underlying39
 have HR0_2 := qas hr0_2
 have HC0_2 := qas hc0_2
 clear hr0_2 hc0_2
 have HR1_2 := qas hr1_2
 have HC1_2 := qas hc1_2
 clear hr1_2 hc1_2
 have HB := qas (Below.refl w.heap.size w)
 have H : (if a0_0.toList = a1_0.toList then (if (a0_1 == a1_1) = true then ((pl_SameInts.f k l0_2 l1_2).bind fun t223 => (if t223 = true then (if a0_3 = a1_3 then (if a0_4 = a1_4 then (if a0_5 = a1_5 then (if a0_6.toList = a1_6.toList then (if a0_7 = a1_7 then (some (a0_8 == a1_8)) else (some false)) else (some false)) else (some false)) else (some false)) else (some false)) else (some false))) else (some false)) else (some false)) = some r := h
 clear h
 by_cases c3 : a0_0.toList = a1_0.toList
 rotate_left
 ·rw [if_neg c3] at H
  have c3b0 : (a0_0.toList == a1_0.toList) = false := beq_eq_false_iff_ne.mpr c3
  have c3b1 : (a0_0.toList != a1_0.toList) = true := bne_iff_ne.mpr c3
  obtain rfl := Option.some.inj H
  go_enter Tryd.func88, Tryd.ntmps88
  go_wp2_with (first | ((with_reducible refine gate_dst (N := 2) rfl ?_); refine box_event ?hg (N := 2) ?hd (cs := #[.string a0_0, .bool a0_1, .slice A0_2 l0_2.length c0_2, .int .i64 a0_3, .int .i64 a0_4, .int .i64 a0_5, .string a0_6, .int .i64 a0_7, .int .i64 a0_8]) (t := 39) ?hr ?_; (case hd => rfl); (case hg => rfl); (case hr => first | (go_simp; done) | (go_simp; rfl)); intro gb221 hg w52 hbox hb; have n0_ := qas (below_step (by repeat (first | (with_reducible first | exact HB.out | apply qbA | apply qbB | apply qbC) | exact HB.out)) hb); have n1_ := qas (hbox); have n2_ := qas ((by rw [hg]; exact (below_size (by repeat (first | (with_reducible first | exact HB.out | apply qbA | apply qbB | apply qbC) | exact HB.out))) : w.heap.size ≤ gb221)); have n3_ := qas ((by rw [hg]; exact (below_size (by repeat (first | (with_reducible first | exact HB.out | apply qbA | apply qbB | apply qbC) | exact HB.out))) : w.heap.size ≤ gb221)); clear HB; have HB := n0_; have BK221 := n1_; have GW221 := n2_; have GE221 := n3_; clear n0_ n1_ n2_ n3_; clear hb hbox hg) | ((with_reducible refine gate_dst (N := 3) rfl ?_); refine box_event ?hg (N := 3) ?hd (cs := #[.string a1_0, .bool a1_1, .slice A1_2 l1_2.length c1_2, .int .i64 a1_3, .int .i64 a1_4, .int .i64 a1_5, .string a1_6, .int .i64 a1_7, .int .i64 a1_8]) (t := 39) ?hr ?_; (case hd => rfl); (case hg => rfl); (case hr => first | (go_simp; done) | (go_simp; rfl)); intro gb222 hg w53 hbox hb; have n0_ := qas (blk_below (g := gb221) (o := .cells #[.string a0_0, .bool a0_1, .slice A0_2 l0_2.length c0_2, .int .i64 a0_3, .int .i64 a0_4, .int .i64 a0_5, .string a0_6, .int .i64 a0_7, .int .i64 a0_8] 39 (0, 0)) (by (with_reducible repeat (first | refine qkA ?_ _ | refine qkB ?_ | refine qkC ?_ _)); exact BK221.out) hb); have n1_ := qas (below_step (by repeat (first | (with_reducible first | exact HB.out | apply qbA | apply qbB | apply qbC | refine below_set ?_ GE221.out) | exact HB.out)) hb); have n2_ := qas (hbox); have n3_ := qas ((by rw [hg]; exact (below_size (by repeat (first | (with_reducible first | exact HB.out | apply qbA | apply qbB | apply qbC | refine below_set ?_ GE221.out) | exact HB.out))) : w.heap.size ≤ gb222)); have n4_ := qas ((by rw [hg]; exact (below_size (by repeat (first | (with_reducible first | exact HB.out | apply qbA | apply qbB | apply qbC | refine below_set ?_ GE221.out) | exact HB.out))) : w.heap.size ≤ gb222)); have n5_ := qas ((by rw [hg]; exact Nat.ne_of_lt (blk_lt (g := gb221) (o := .cells #[.string a0_0, .bool a0_1, .slice A0_2 l0_2.length c0_2, .int .i64 a0_3, .int .i64 a0_4, .int .i64 a0_5, .string a0_6, .int .i64 a0_7, .int .i64 a0_8] 39 (0, 0)) (by (with_reducible repeat (first | refine qkA ?_ _ | refine qkB ?_ | refine qkC ?_ _)); exact BK221.out)) : gb221 ≠ gb222)); have n6_ := qas ((by rw [hg]; exact Nat.ne_of_gt (blk_lt (g := gb221) (o := .cells #[.string a0_0, .bool a0_1, .slice A0_2 l0_2.length c0_2, .int .i64 a0_3, .int .i64 a0_4, .int .i64 a0_5, .string a0_6, .int .i64 a0_7, .int .i64 a0_8] 39 (0, 0)) (by (with_reducible repeat (first | refine qkA ?_ _ | refine qkB ?_ | refine qkC ?_ _)); exact BK221.out)) : gb222 ≠ gb221)); clear BK221; clear HB; have BK221 := n0_; have HB := n1_; have BK222 := n2_; have GW222 := n3_; have GE222 := n4_; have NB221_222 := n5_; have NB222_221 := n6_; clear n0_ n1_ n2_ n3_ n4_ n5_ n6_; clear hb hbox hg; have hnb54 := NB221_222.out; have hnc54 := NB222_221.out; have hcz55_0 : w53.cell? ⟨gb221, 0, none⟩ = some (.string a0_0) := (blk_cell BK221.out 0).trans rfl; have hcz55_1 : w53.cell? ⟨gb221, 1, none⟩ = some (.bool a0_1) := (blk_cell BK221.out 1).trans rfl; have hcz55_2 : w53.cell? ⟨gb221, 2, none⟩ = some (.slice A0_2 l0_2.length c0_2) := (blk_cell BK221.out 2).trans rfl; have hcz55_3 : w53.cell? ⟨gb221, 3, none⟩ = some (.int .i64 a0_3) := (blk_cell BK221.out 3).trans rfl; have hcz55_4 : w53.cell? ⟨gb221, 4, none⟩ = some (.int .i64 a0_4) := (blk_cell BK221.out 4).trans rfl; have hcz55_5 : w53.cell? ⟨gb221, 5, none⟩ = some (.int .i64 a0_5) := (blk_cell BK221.out 5).trans rfl; have hcz55_6 : w53.cell? ⟨gb221, 6, none⟩ = some (.string a0_6) := (blk_cell BK221.out 6).trans rfl; have hcz55_7 : w53.cell? ⟨gb221, 7, none⟩ = some (.int .i64 a0_7) := (blk_cell BK221.out 7).trans rfl; have hcz55_8 : w53.cell? ⟨gb221, 8, none⟩ = some (.int .i64 a0_8) := (blk_cell BK221.out 8).trans rfl; have hfz55_0 := blk_frozen BK221.out 0; have hfz55_1 := blk_frozen BK221.out 1; have hfz55_2 := blk_frozen BK221.out 2; have hfz55_3 := blk_frozen BK221.out 3; have hfz55_4 := blk_frozen BK221.out 4; have hfz55_5 := blk_frozen BK221.out 5; have hfz55_6 := blk_frozen BK221.out 6; have hfz55_7 := blk_frozen BK221.out 7; have hfz55_8 := blk_frozen BK221.out 8; have hcz56_0 : w53.cell? ⟨gb222, 0, none⟩ = some (.string a1_0) := (blk_cell BK222.out 0).trans rfl; have hcz56_1 : w53.cell? ⟨gb222, 1, none⟩ = some (.bool a1_1) := (blk_cell BK222.out 1).trans rfl; have hcz56_2 : w53.cell? ⟨gb222, 2, none⟩ = some (.slice A1_2 l1_2.length c1_2) := (blk_cell BK222.out 2).trans rfl; have hcz56_3 : w53.cell? ⟨gb222, 3, none⟩ = some (.int .i64 a1_3) := (blk_cell BK222.out 3).trans rfl; have hcz56_4 : w53.cell? ⟨gb222, 4, none⟩ = some (.int .i64 a1_4) := (blk_cell BK222.out 4).trans rfl; have hcz56_5 : w53.cell? ⟨gb222, 5, none⟩ = some (.int .i64 a1_5) := (blk_cell BK222.out 5).trans rfl; have hcz56_6 : w53.cell? ⟨gb222, 6, none⟩ = some (.string a1_6) := (blk_cell BK222.out 6).trans rfl; have hcz56_7 : w53.cell? ⟨gb222, 7, none⟩ = some (.int .i64 a1_7) := (blk_cell BK222.out 7).trans rfl; have hcz56_8 : w53.cell? ⟨gb222, 8, none⟩ = some (.int .i64 a1_8) := (blk_cell BK222.out 8).trans rfl; have hfz56_0 := blk_frozen BK222.out 0; have hfz56_1 := blk_frozen BK222.out 1; have hfz56_2 := blk_frozen BK222.out 2; have hfz56_3 := blk_frozen BK222.out 3; have hfz56_4 := blk_frozen BK222.out 4; have hfz56_5 := blk_frozen BK222.out 5; have hfz56_6 := blk_frozen BK222.out 6; have hfz56_7 := blk_frozen BK222.out 7; have hfz56_8 := blk_frozen BK222.out 8))
  go_ret
  exact ⟨by first | rfl | (simp [errW_none, errW_some] <;> rfl) | (simp [*, errW_none, errW_some] <;> rfl), by repeat (first | (with_reducible first | exact HB.out | apply qbA | apply qbB | apply qbC | refine below_set ?_ GE221.out | refine below_set ?_ GE222.out) | exact HB.out)⟩
 rw [if_pos c3] at H
 have c3b0 : (a0_0.toList == a1_0.toList) = true := beq_iff_eq.mpr c3
 have c3b1 : (a0_0.toList != a1_0.toList) = false := bne_eq_false_iff_eq.mpr c3
 clear c3
 by_cases c4 : (a0_1 == a1_1) = true
 rotate_left
 ·rw [if_neg c4] at H
  have c4b0 : (a0_1 == a1_1) = false := by simpa using c4
  (try (have c4b1 : decide (a0_1 = a1_1) = false := by simpa using c4))
  (try (have c4b2 : (a0_1 == a1_1) = false := by simpa using c4))
  (try (have c4b3 : ¬ (a0_1 = a1_1) := by simpa using c4))
  clear c4
  obtain rfl := Option.some.inj H
  go_enter Tryd.func88, Tryd.ntmps88
  go_wp2_with (first | ((with_reducible refine gate_dst (N := 2) rfl ?_); refine box_event ?hg (N := 2) ?hd (cs := #[.string a0_0, .bool a0_1, .slice A0_2 l0_2.length c0_2, .int .i64 a0_3, .int .i64 a0_4, .int .i64 a0_5, .string a0_6, .int .i64 a0_7, .int .i64 a0_8]) (t := 39) ?hr ?_; (case hd => rfl); (case hg => rfl); (case hr => first | (go_simp; done) | (go_simp; rfl)); intro gb221 hg w47 hbox hb; have n0_ := qas (below_step (by repeat (first | (with_reducible first | exact HB.out | apply qbA | apply qbB | apply qbC) | exact HB.out)) hb); have n1_ := qas (hbox); have n2_ := qas ((by rw [hg]; exact (below_size (by repeat (first | (with_reducible first | exact HB.out | apply qbA | apply qbB | apply qbC) | exact HB.out))) : w.heap.size ≤ gb221)); have n3_ := qas ((by rw [hg]; exact (below_size (by repeat (first | (with_reducible first | exact HB.out | apply qbA | apply qbB | apply qbC) | exact HB.out))) : w.heap.size ≤ gb221)); clear HB; have HB := n0_; have BK221 := n1_; have GW221 := n2_; have GE221 := n3_; clear n0_ n1_ n2_ n3_; clear hb hbox hg) | ((with_reducible refine gate_dst (N := 3) rfl ?_); refine box_event ?hg (N := 3) ?hd (cs := #[.string a1_0, .bool a1_1, .slice A1_2 l1_2.length c1_2, .int .i64 a1_3, .int .i64 a1_4, .int .i64 a1_5, .string a1_6, .int .i64 a1_7, .int .i64 a1_8]) (t := 39) ?hr ?_; (case hd => rfl); (case hg => rfl); (case hr => first | (go_simp; done) | (go_simp; rfl)); intro gb222 hg w48 hbox hb; have n0_ := qas (blk_below (g := gb221) (o := .cells #[.string a0_0, .bool a0_1, .slice A0_2 l0_2.length c0_2, .int .i64 a0_3, .int .i64 a0_4, .int .i64 a0_5, .string a0_6, .int .i64 a0_7, .int .i64 a0_8] 39 (0, 0)) (by (with_reducible repeat (first | refine qkA ?_ _ | refine qkB ?_ | refine qkC ?_ _)); exact BK221.out) hb); have n1_ := qas (below_step (by repeat (first | (with_reducible first | exact HB.out | apply qbA | apply qbB | apply qbC | refine below_set ?_ GE221.out) | exact HB.out)) hb); have n2_ := qas (hbox); have n3_ := qas ((by rw [hg]; exact (below_size (by repeat (first | (with_reducible first | exact HB.out | apply qbA | apply qbB | apply qbC | refine below_set ?_ GE221.out) | exact HB.out))) : w.heap.size ≤ gb222)); have n4_ := qas ((by rw [hg]; exact (below_size (by repeat (first | (with_reducible first | exact HB.out | apply qbA | apply qbB | apply qbC | refine below_set ?_ GE221.out) | exact HB.out))) : w.heap.size ≤ gb222)); have n5_ := qas ((by rw [hg]; exact Nat.ne_of_lt (blk_lt (g := gb221) (o := .cells #[.string a0_0, .bool a0_1, .slice A0_2 l0_2.length c0_2, .int .i64 a0_3, .int .i64 a0_4, .int .i64 a0_5, .string a0_6, .int .i64 a0_7, .int .i64 a0_8] 39 (0, 0)) (by (with_reducible repeat (first | refine qkA ?_ _ | refine qkB ?_ | refine qkC ?_ _)); exact BK221.out)) : gb221 ≠ gb222)); have n6_ := qas ((by rw [hg]; exact Nat.ne_of_gt (blk_lt (g := gb221) (o := .cells #[.string a0_0, .bool a0_1, .slice A0_2 l0_2.length c0_2, .int .i64 a0_3, .int .i64 a0_4, .int .i64 a0_5, .string a0_6, .int .i64 a0_7, .int .i64 a0_8] 39 (0, 0)) (by (with_reducible repeat (first | refine qkA ?_ _ | refine qkB ?_ | refine qkC ?_ _)); exact BK221.out)) : gb222 ≠ gb221)); clear BK221; clear HB; have BK221 := n0_; have HB := n1_; have BK222 := n2_; have GW222 := n3_; have GE222 := n4_; have NB221_222 := n5_; have NB222_221 := n6_; clear n0_ n1_ n2_ n3_ n4_ n5_ n6_; clear hb hbox hg; have hnb49 := NB221_222.out; have hnc49 := NB222_221.out; have hcz50_0 : w48.cell? ⟨gb221, 0, none⟩ = some (.string a0_0) := (blk_cell BK221.out 0).trans rfl; have hcz50_1 : w48.cell? ⟨gb221, 1, none⟩ = some (.bool a0_1) := (blk_cell BK221.out 1).trans rfl; have hcz50_2 : w48.cell? ⟨gb221, 2, none⟩ = some (.slice A0_2 l0_2.length c0_2) := (blk_cell BK221.out 2).trans rfl; have hcz50_3 : w48.cell? ⟨gb221, 3, none⟩ = some (.int .i64 a0_3) := (blk_cell BK221.out 3).trans rfl; have hcz50_4 : w48.cell? ⟨gb221, 4, none⟩ = some (.int .i64 a0_4) := (blk_cell BK221.out 4).trans rfl; have hcz50_5 : w48.cell? ⟨gb221, 5, none⟩ = some (.int .i64 a0_5) := (blk_cell BK221.out 5).trans rfl; have hcz50_6 : w48.cell? ⟨gb221, 6, none⟩ = some (.string a0_6) := (blk_cell BK221.out 6).trans rfl; have hcz50_7 : w48.cell? ⟨gb221, 7, none⟩ = some (.int .i64 a0_7) := (blk_cell BK221.out 7).trans rfl; have hcz50_8 : w48.cell? ⟨gb221, 8, none⟩ = some (.int .i64 a0_8) := (blk_cell BK221.out 8).trans rfl; have hfz50_0 := blk_frozen BK221.out 0; have hfz50_1 := blk_frozen BK221.out 1; have hfz50_2 := blk_frozen BK221.out 2; have hfz50_3 := blk_frozen BK221.out 3; have hfz50_4 := blk_frozen BK221.out 4; have hfz50_5 := blk_frozen BK221.out 5; have hfz50_6 := blk_frozen BK221.out 6; have hfz50_7 := blk_frozen BK221.out 7; have hfz50_8 := blk_frozen BK221.out 8; have hcz51_0 : w48.cell? ⟨gb222, 0, none⟩ = some (.string a1_0) := (blk_cell BK222.out 0).trans rfl; have hcz51_1 : w48.cell? ⟨gb222, 1, none⟩ = some (.bool a1_1) := (blk_cell BK222.out 1).trans rfl; have hcz51_2 : w48.cell? ⟨gb222, 2, none⟩ = some (.slice A1_2 l1_2.length c1_2) := (blk_cell BK222.out 2).trans rfl; have hcz51_3 : w48.cell? ⟨gb222, 3, none⟩ = some (.int .i64 a1_3) := (blk_cell BK222.out 3).trans rfl; have hcz51_4 : w48.cell? ⟨gb222, 4, none⟩ = some (.int .i64 a1_4) := (blk_cell BK222.out 4).trans rfl; have hcz51_5 : w48.cell? ⟨gb222, 5, none⟩ = some (.int .i64 a1_5) := (blk_cell BK222.out 5).trans rfl; have hcz51_6 : w48.cell? ⟨gb222, 6, none⟩ = some (.string a1_6) := (blk_cell BK222.out 6).trans rfl; have hcz51_7 : w48.cell? ⟨gb222, 7, none⟩ = some (.int .i64 a1_7) := (blk_cell BK222.out 7).trans rfl; have hcz51_8 : w48.cell? ⟨gb222, 8, none⟩ = some (.int .i64 a1_8) := (blk_cell BK222.out 8).trans rfl; have hfz51_0 := blk_frozen BK222.out 0; have hfz51_1 := blk_frozen BK222.out 1; have hfz51_2 := blk_frozen BK222.out 2; have hfz51_3 := blk_frozen BK222.out 3; have hfz51_4 := blk_frozen BK222.out 4; have hfz51_5 := blk_frozen BK222.out 5; have hfz51_6 := blk_frozen BK222.out 6; have hfz51_7 := blk_frozen BK222.out 7; have hfz51_8 := blk_frozen BK222.out 8))
  go_ret
  exact ⟨by first | rfl | (simp [errW_none, errW_some] <;> rfl) | (simp [*, errW_none, errW_some] <;> rfl), by repeat (first | (with_reducible first | exact HB.out | apply qbA | apply qbB | apply qbC | refine below_set ?_ GE221.out | refine below_set ?_ GE222.out) | exact HB.out)⟩
 rw [if_pos c4] at H
 have c4b0 : (a0_1 == a1_1) = true := c4
 (try (have c4b1 : decide (a0_1 = a1_1) = true := by simpa using c4))
 (try (have c4b2 : (a0_1 == a1_1) = true := by simpa using c4))
 clear c4
 replace H := Option.bind_eq_some_iff.mp H
 obtain ⟨t223, A50, H⟩ := H
 replace H : (if t223 = true then (if a0_3 = a1_3 then (if a0_4 = a1_4 then (if a0_5 = a1_5 then (if a0_6.toList = a1_6.toList then (if a0_7 = a1_7 then (some (a0_8 == a1_8)) else (some false)) else (some false)) else (some false)) else (some false)) else (some false)) else (some false)) = some r := H
 have A5 := qas A50
 clear A50
 by_cases c6 : t223 = true
 rotate_left
 ·replace c6 := Bool.eq_false_iff.mpr c6
  subst c6
  have H1 : (some false) = some r := by rw [if_neg (show ¬ (false = true) by decide)] at H; exact H
  clear H
  have H := H1
  clear H1
  obtain rfl := Option.some.inj H
  go_enter Tryd.func88, Tryd.ntmps88
  go_wp2_with (first | ((with_reducible refine gate_dst (N := 2) rfl ?_); refine box_event ?hg (N := 2) ?hd (cs := #[.string a0_0, .bool a0_1, .slice A0_2 l0_2.length c0_2, .int .i64 a0_3, .int .i64 a0_4, .int .i64 a0_5, .string a0_6, .int .i64 a0_7, .int .i64 a0_8]) (t := 39) ?hr ?_; (case hd => rfl); (case hg => rfl); (case hr => first | (go_simp; done) | (go_simp; rfl)); intro gb221 hg w42 hbox hb; have n0_ := qas (below_step (by repeat (first | (with_reducible first | exact HB.out | apply qbA | apply qbB | apply qbC) | exact HB.out)) hb); have n1_ := qas (hbox); have n2_ := qas ((by rw [hg]; exact (below_size (by repeat (first | (with_reducible first | exact HB.out | apply qbA | apply qbB | apply qbC) | exact HB.out))) : w.heap.size ≤ gb221)); have n3_ := qas ((by rw [hg]; exact (below_size (by repeat (first | (with_reducible first | exact HB.out | apply qbA | apply qbB | apply qbC) | exact HB.out))) : w.heap.size ≤ gb221)); clear HB; have HB := n0_; have BK221 := n1_; have GW221 := n2_; have GE221 := n3_; clear n0_ n1_ n2_ n3_; clear hb hbox hg) | ((with_reducible refine gate_dst (N := 3) rfl ?_); refine box_event ?hg (N := 3) ?hd (cs := #[.string a1_0, .bool a1_1, .slice A1_2 l1_2.length c1_2, .int .i64 a1_3, .int .i64 a1_4, .int .i64 a1_5, .string a1_6, .int .i64 a1_7, .int .i64 a1_8]) (t := 39) ?hr ?_; (case hd => rfl); (case hg => rfl); (case hr => first | (go_simp; done) | (go_simp; rfl)); intro gb222 hg w43 hbox hb; have n0_ := qas (blk_below (g := gb221) (o := .cells #[.string a0_0, .bool a0_1, .slice A0_2 l0_2.length c0_2, .int .i64 a0_3, .int .i64 a0_4, .int .i64 a0_5, .string a0_6, .int .i64 a0_7, .int .i64 a0_8] 39 (0, 0)) (by (with_reducible repeat (first | refine qkA ?_ _ | refine qkB ?_ | refine qkC ?_ _)); exact BK221.out) hb); have n1_ := qas (below_step (by repeat (first | (with_reducible first | exact HB.out | apply qbA | apply qbB | apply qbC | refine below_set ?_ GE221.out) | exact HB.out)) hb); have n2_ := qas (hbox); have n3_ := qas ((by rw [hg]; exact (below_size (by repeat (first | (with_reducible first | exact HB.out | apply qbA | apply qbB | apply qbC | refine below_set ?_ GE221.out) | exact HB.out))) : w.heap.size ≤ gb222)); have n4_ := qas ((by rw [hg]; exact (below_size (by repeat (first | (with_reducible first | exact HB.out | apply qbA | apply qbB | apply qbC | refine below_set ?_ GE221.out) | exact HB.out))) : w.heap.size ≤ gb222)); have n5_ := qas ((by rw [hg]; exact Nat.ne_of_lt (blk_lt (g := gb221) (o := .cells #[.string a0_0, .bool a0_1, .slice A0_2 l0_2.length c0_2, .int .i64 a0_3, .int .i64 a0_4, .int .i64 a0_5, .string a0_6, .int .i64 a0_7, .int .i64 a0_8] 39 (0, 0)) (by (with_reducible repeat (first | refine qkA ?_ _ | refine qkB ?_ | refine qkC ?_ _)); exact BK221.out)) : gb221 ≠ gb222)); have n6_ := qas ((by rw [hg]; exact Nat.ne_of_gt (blk_lt (g := gb221) (o := .cells #[.string a0_0, .bool a0_1, .slice A0_2 l0_2.length c0_2, .int .i64 a0_3, .int .i64 a0_4, .int .i64 a0_5, .string a0_6, .int .i64 a0_7, .int .i64 a0_8] 39 (0, 0)) (by (with_reducible repeat (first | refine qkA ?_ _ | refine qkB ?_ | refine qkC ?_ _)); exact BK221.out)) : gb222 ≠ gb221)); clear BK221; clear HB; have BK221 := n0_; have HB := n1_; have BK222 := n2_; have GW222 := n3_; have GE222 := n4_; have NB221_222 := n5_; have NB222_221 := n6_; clear n0_ n1_ n2_ n3_ n4_ n5_ n6_; clear hb hbox hg; have hnb44 := NB221_222.out; have hnc44 := NB222_221.out; have hcz45_0 : w43.cell? ⟨gb221, 0, none⟩ = some (.string a0_0) := (blk_cell BK221.out 0).trans rfl; have hcz45_1 : w43.cell? ⟨gb221, 1, none⟩ = some (.bool a0_1) := (blk_cell BK221.out 1).trans rfl; have hcz45_2 : w43.cell? ⟨gb221, 2, none⟩ = some (.slice A0_2 l0_2.length c0_2) := (blk_cell BK221.out 2).trans rfl; have hcz45_3 : w43.cell? ⟨gb221, 3, none⟩ = some (.int .i64 a0_3) := (blk_cell BK221.out 3).trans rfl; have hcz45_4 : w43.cell? ⟨gb221, 4, none⟩ = some (.int .i64 a0_4) := (blk_cell BK221.out 4).trans rfl; have hcz45_5 : w43.cell? ⟨gb221, 5, none⟩ = some (.int .i64 a0_5) := (blk_cell BK221.out 5).trans rfl; have hcz45_6 : w43.cell? ⟨gb221, 6, none⟩ = some (.string a0_6) := (blk_cell BK221.out 6).trans rfl; have hcz45_7 : w43.cell? ⟨gb221, 7, none⟩ = some (.int .i64 a0_7) := (blk_cell BK221.out 7).trans rfl; have hcz45_8 : w43.cell? ⟨gb221, 8, none⟩ = some (.int .i64 a0_8) := (blk_cell BK221.out 8).trans rfl; have hfz45_0 := blk_frozen BK221.out 0; have hfz45_1 := blk_frozen BK221.out 1; have hfz45_2 := blk_frozen BK221.out 2; have hfz45_3 := blk_frozen BK221.out 3; have hfz45_4 := blk_frozen BK221.out 4; have hfz45_5 := blk_frozen BK221.out 5; have hfz45_6 := blk_frozen BK221.out 6; have hfz45_7 := blk_frozen BK221.out 7; have hfz45_8 := blk_frozen BK221.out 8; have hcz46_0 : w43.cell? ⟨gb222, 0, none⟩ = some (.string a1_0) := (blk_cell BK222.out 0).trans rfl; have hcz46_1 : w43.cell? ⟨gb222, 1, none⟩ = some (.bool a1_1) := (blk_cell BK222.out 1).trans rfl; have hcz46_2 : w43.cell? ⟨gb222, 2, none⟩ = some (.slice A1_2 l1_2.length c1_2) := (blk_cell BK222.out 2).trans rfl; have hcz46_3 : w43.cell? ⟨gb222, 3, none⟩ = some (.int .i64 a1_3) := (blk_cell BK222.out 3).trans rfl; have hcz46_4 : w43.cell? ⟨gb222, 4, none⟩ = some (.int .i64 a1_4) := (blk_cell BK222.out 4).trans rfl; have hcz46_5 : w43.cell? ⟨gb222, 5, none⟩ = some (.int .i64 a1_5) := (blk_cell BK222.out 5).trans rfl; have hcz46_6 : w43.cell? ⟨gb222, 6, none⟩ = some (.string a1_6) := (blk_cell BK222.out 6).trans rfl; have hcz46_7 : w43.cell? ⟨gb222, 7, none⟩ = some (.int .i64 a1_7) := (blk_cell BK222.out 7).trans rfl; have hcz46_8 : w43.cell? ⟨gb222, 8, none⟩ = some (.int .i64 a1_8) := (blk_cell BK222.out 8).trans rfl; have hfz46_0 := blk_frozen BK222.out 0; have hfz46_1 := blk_frozen BK222.out 1; have hfz46_2 := blk_frozen BK222.out 2; have hfz46_3 := blk_frozen BK222.out 3; have hfz46_4 := blk_frozen BK222.out 4; have hfz46_5 := blk_frozen BK222.out 5; have hfz46_6 := blk_frozen BK222.out 6; have hfz46_7 := blk_frozen BK222.out 7; have hfz46_8 := blk_frozen BK222.out 8) | (go_at_call 111; (with_reducible refine (pl_SameInts.calls k _ _ l0_2 _ _ l1_2 false _ ?side1 ?side2 ?side3 ?side4 A5.out).mono ?_); (case side1 => repeat (first | exact (Kd.C_below HR0_2.out HB.out) | (with_reducible refine Kd.C_alloc ?_ _) | (with_reducible refine Kd.C_drewN ?_ _) | (with_reducible refine Kd.C_drew ?_))); (case side2 => exact HC0_2.out); (case side3 => repeat (first | exact (Kd.C_below HR1_2.out HB.out) | (with_reducible refine Kd.C_alloc ?_ _) | (with_reducible refine Kd.C_drewN ?_ _) | (with_reducible refine Kd.C_drew ?_))); (case side4 => exact HC1_2.out); rintro e w' ⟨rfl, ⟨nd, rfl⟩⟩))
  go_ret
  exact ⟨by first | rfl | (simp [errW_none, errW_some] <;> rfl) | (simp [*, errW_none, errW_some] <;> rfl), by repeat (first | (with_reducible first | exact HB.out | apply qbA | apply qbB | apply qbC | refine below_set ?_ GE221.out | refine below_set ?_ GE222.out) | exact HB.out)⟩
 subst c6
 have H1 : (if a0_3 = a1_3 then (if a0_4 = a1_4 then (if a0_5 = a1_5 then (if a0_6.toList = a1_6.toList then (if a0_7 = a1_7 then (some (a0_8 == a1_8)) else (some false)) else (some false)) else (some false)) else (some false)) else (some false)) = some r := by rw [if_pos rfl] at H; exact H
 clear H
 have H := H1
 clear H1
 by_cases c7 : a0_3 = a1_3
 rotate_left
 ·rw [if_neg c7] at H
  have c7b0 : (a0_3 == a1_3) = false := beq_eq_false_iff_ne.mpr c7
  have c7b1 : (a0_3 != a1_3) = true := bne_iff_ne.mpr c7
  obtain rfl := Option.some.inj H
  go_enter Tryd.func88, Tryd.ntmps88
  go_wp2_with (first | ((with_reducible refine gate_dst (N := 2) rfl ?_); refine box_event ?hg (N := 2) ?hd (cs := #[.string a0_0, .bool a0_1, .slice A0_2 l0_2.length c0_2, .int .i64 a0_3, .int .i64 a0_4, .int .i64 a0_5, .string a0_6, .int .i64 a0_7, .int .i64 a0_8]) (t := 39) ?hr ?_; (case hd => rfl); (case hg => rfl); (case hr => first | (go_simp; done) | (go_simp; rfl)); intro gb221 hg w37 hbox hb; have n0_ := qas (below_step (by repeat (first | (with_reducible first | exact HB.out | apply qbA | apply qbB | apply qbC) | exact HB.out)) hb); have n1_ := qas (hbox); have n2_ := qas ((by rw [hg]; exact (below_size (by repeat (first | (with_reducible first | exact HB.out | apply qbA | apply qbB | apply qbC) | exact HB.out))) : w.heap.size ≤ gb221)); have n3_ := qas ((by rw [hg]; exact (below_size (by repeat (first | (with_reducible first | exact HB.out | apply qbA | apply qbB | apply qbC) | exact HB.out))) : w.heap.size ≤ gb221)); clear HB; have HB := n0_; have BK221 := n1_; have GW221 := n2_; have GE221 := n3_; clear n0_ n1_ n2_ n3_; clear hb hbox hg) | ((with_reducible refine gate_dst (N := 3) rfl ?_); refine box_event ?hg (N := 3) ?hd (cs := #[.string a1_0, .bool a1_1, .slice A1_2 l1_2.length c1_2, .int .i64 a1_3, .int .i64 a1_4, .int .i64 a1_5, .string a1_6, .int .i64 a1_7, .int .i64 a1_8]) (t := 39) ?hr ?_; (case hd => rfl); (case hg => rfl); (case hr => first | (go_simp; done) | (go_simp; rfl)); intro gb222 hg w38 hbox hb; have n0_ := qas (blk_below (g := gb221) (o := .cells #[.string a0_0, .bool a0_1, .slice A0_2 l0_2.length c0_2, .int .i64 a0_3, .int .i64 a0_4, .int .i64 a0_5, .string a0_6, .int .i64 a0_7, .int .i64 a0_8] 39 (0, 0)) (by (with_reducible repeat (first | refine qkA ?_ _ | refine qkB ?_ | refine qkC ?_ _)); exact BK221.out) hb); have n1_ := qas (below_step (by repeat (first | (with_reducible first | exact HB.out | apply qbA | apply qbB | apply qbC | refine below_set ?_ GE221.out) | exact HB.out)) hb); have n2_ := qas (hbox); have n3_ := qas ((by rw [hg]; exact (below_size (by repeat (first | (with_reducible first | exact HB.out | apply qbA | apply qbB | apply qbC | refine below_set ?_ GE221.out) | exact HB.out))) : w.heap.size ≤ gb222)); have n4_ := qas ((by rw [hg]; exact (below_size (by repeat (first | (with_reducible first | exact HB.out | apply qbA | apply qbB | apply qbC | refine below_set ?_ GE221.out) | exact HB.out))) : w.heap.size ≤ gb222)); have n5_ := qas ((by rw [hg]; exact Nat.ne_of_lt (blk_lt (g := gb221) (o := .cells #[.string a0_0, .bool a0_1, .slice A0_2 l0_2.length c0_2, .int .i64 a0_3, .int .i64 a0_4, .int .i64 a0_5, .string a0_6, .int .i64 a0_7, .int .i64 a0_8] 39 (0, 0)) (by (with_reducible repeat (first | refine qkA ?_ _ | refine qkB ?_ | refine qkC ?_ _)); exact BK221.out)) : gb221 ≠ gb222)); have n6_ := qas ((by rw [hg]; exact Nat.ne_of_gt (blk_lt (g := gb221) (o := .cells #[.string a0_0, .bool a0_1, .slice A0_2 l0_2.length c0_2, .int .i64 a0_3, .int .i64 a0_4, .int .i64 a0_5, .string a0_6, .int .i64 a0_7, .int .i64 a0_8] 39 (0, 0)) (by (with_reducible repeat (first | refine qkA ?_ _ | refine qkB ?_ | refine qkC ?_ _)); exact BK221.out)) : gb222 ≠ gb221)); clear BK221; clear HB; have BK221 := n0_; have HB := n1_; have BK222 := n2_; have GW222 := n3_; have GE222 := n4_; have NB221_222 := n5_; have NB222_221 := n6_; clear n0_ n1_ n2_ n3_ n4_ n5_ n6_; clear hb hbox hg; have hnb39 := NB221_222.out; have hnc39 := NB222_221.out; have hcz40_0 : w38.cell? ⟨gb221, 0, none⟩ = some (.string a0_0) := (blk_cell BK221.out 0).trans rfl; have hcz40_1 : w38.cell? ⟨gb221, 1, none⟩ = some (.bool a0_1) := (blk_cell BK221.out 1).trans rfl; have hcz40_2 : w38.cell? ⟨gb221, 2, none⟩ = some (.slice A0_2 l0_2.length c0_2) := (blk_cell BK221.out 2).trans rfl; have hcz40_3 : w38.cell? ⟨gb221, 3, none⟩ = some (.int .i64 a0_3) := (blk_cell BK221.out 3).trans rfl; have hcz40_4 : w38.cell? ⟨gb221, 4, none⟩ = some (.int .i64 a0_4) := (blk_cell BK221.out 4).trans rfl; have hcz40_5 : w38.cell? ⟨gb221, 5, none⟩ = some (.int .i64 a0_5) := (blk_cell BK221.out 5).trans rfl; have hcz40_6 : w38.cell? ⟨gb221, 6, none⟩ = some (.string a0_6) := (blk_cell BK221.out 6).trans rfl; have hcz40_7 : w38.cell? ⟨gb221, 7, none⟩ = some (.int .i64 a0_7) := (blk_cell BK221.out 7).trans rfl; have hcz40_8 : w38.cell? ⟨gb221, 8, none⟩ = some (.int .i64 a0_8) := (blk_cell BK221.out 8).trans rfl; have hfz40_0 := blk_frozen BK221.out 0; have hfz40_1 := blk_frozen BK221.out 1; have hfz40_2 := blk_frozen BK221.out 2; have hfz40_3 := blk_frozen BK221.out 3; have hfz40_4 := blk_frozen BK221.out 4; have hfz40_5 := blk_frozen BK221.out 5; have hfz40_6 := blk_frozen BK221.out 6; have hfz40_7 := blk_frozen BK221.out 7; have hfz40_8 := blk_frozen BK221.out 8; have hcz41_0 : w38.cell? ⟨gb222, 0, none⟩ = some (.string a1_0) := (blk_cell BK222.out 0).trans rfl; have hcz41_1 : w38.cell? ⟨gb222, 1, none⟩ = some (.bool a1_1) := (blk_cell BK222.out 1).trans rfl; have hcz41_2 : w38.cell? ⟨gb222, 2, none⟩ = some (.slice A1_2 l1_2.length c1_2) := (blk_cell BK222.out 2).trans rfl; have hcz41_3 : w38.cell? ⟨gb222, 3, none⟩ = some (.int .i64 a1_3) := (blk_cell BK222.out 3).trans rfl; have hcz41_4 : w38.cell? ⟨gb222, 4, none⟩ = some (.int .i64 a1_4) := (blk_cell BK222.out 4).trans rfl; have hcz41_5 : w38.cell? ⟨gb222, 5, none⟩ = some (.int .i64 a1_5) := (blk_cell BK222.out 5).trans rfl; have hcz41_6 : w38.cell? ⟨gb222, 6, none⟩ = some (.string a1_6) := (blk_cell BK222.out 6).trans rfl; have hcz41_7 : w38.cell? ⟨gb222, 7, none⟩ = some (.int .i64 a1_7) := (blk_cell BK222.out 7).trans rfl; have hcz41_8 : w38.cell? ⟨gb222, 8, none⟩ = some (.int .i64 a1_8) := (blk_cell BK222.out 8).trans rfl; have hfz41_0 := blk_frozen BK222.out 0; have hfz41_1 := blk_frozen BK222.out 1; have hfz41_2 := blk_frozen BK222.out 2; have hfz41_3 := blk_frozen BK222.out 3; have hfz41_4 := blk_frozen BK222.out 4; have hfz41_5 := blk_frozen BK222.out 5; have hfz41_6 := blk_frozen BK222.out 6; have hfz41_7 := blk_frozen BK222.out 7; have hfz41_8 := blk_frozen BK222.out 8) | (go_at_call 111; (with_reducible refine (pl_SameInts.calls k _ _ l0_2 _ _ l1_2 true _ ?side1 ?side2 ?side3 ?side4 A5.out).mono ?_); (case side1 => repeat (first | exact (Kd.C_below HR0_2.out HB.out) | (with_reducible refine Kd.C_alloc ?_ _) | (with_reducible refine Kd.C_drewN ?_ _) | (with_reducible refine Kd.C_drew ?_))); (case side2 => exact HC0_2.out); (case side3 => repeat (first | exact (Kd.C_below HR1_2.out HB.out) | (with_reducible refine Kd.C_alloc ?_ _) | (with_reducible refine Kd.C_drewN ?_ _) | (with_reducible refine Kd.C_drew ?_))); (case side4 => exact HC1_2.out); rintro e w' ⟨rfl, ⟨nd, rfl⟩⟩))
  go_ret
  exact ⟨by first | rfl | (simp [errW_none, errW_some] <;> rfl) | (simp [*, errW_none, errW_some] <;> rfl), by repeat (first | (with_reducible first | exact HB.out | apply qbA | apply qbB | apply qbC | refine below_set ?_ GE221.out | refine below_set ?_ GE222.out) | exact HB.out)⟩
 rw [if_pos c7] at H
 have c7b0 : (a0_3 == a1_3) = true := beq_iff_eq.mpr c7
 have c7b1 : (a0_3 != a1_3) = false := bne_eq_false_iff_eq.mpr c7
 clear c7
 by_cases c8 : a0_4 = a1_4
 rotate_left
 ·rw [if_neg c8] at H
  have c8b0 : (a0_4 == a1_4) = false := beq_eq_false_iff_ne.mpr c8
  have c8b1 : (a0_4 != a1_4) = true := bne_iff_ne.mpr c8
  obtain rfl := Option.some.inj H
  go_enter Tryd.func88, Tryd.ntmps88
  go_wp2_with (first | ((with_reducible refine gate_dst (N := 2) rfl ?_); refine box_event ?hg (N := 2) ?hd (cs := #[.string a0_0, .bool a0_1, .slice A0_2 l0_2.length c0_2, .int .i64 a0_3, .int .i64 a0_4, .int .i64 a0_5, .string a0_6, .int .i64 a0_7, .int .i64 a0_8]) (t := 39) ?hr ?_; (case hd => rfl); (case hg => rfl); (case hr => first | (go_simp; done) | (go_simp; rfl)); intro gb221 hg w32 hbox hb; have n0_ := qas (below_step (by repeat (first | (with_reducible first | exact HB.out | apply qbA | apply qbB | apply qbC) | exact HB.out)) hb); have n1_ := qas (hbox); have n2_ := qas ((by rw [hg]; exact (below_size (by repeat (first | (with_reducible first | exact HB.out | apply qbA | apply qbB | apply qbC) | exact HB.out))) : w.heap.size ≤ gb221)); have n3_ := qas ((by rw [hg]; exact (below_size (by repeat (first | (with_reducible first | exact HB.out | apply qbA | apply qbB | apply qbC) | exact HB.out))) : w.heap.size ≤ gb221)); clear HB; have HB := n0_; have BK221 := n1_; have GW221 := n2_; have GE221 := n3_; clear n0_ n1_ n2_ n3_; clear hb hbox hg) | ((with_reducible refine gate_dst (N := 3) rfl ?_); refine box_event ?hg (N := 3) ?hd (cs := #[.string a1_0, .bool a1_1, .slice A1_2 l1_2.length c1_2, .int .i64 a1_3, .int .i64 a1_4, .int .i64 a1_5, .string a1_6, .int .i64 a1_7, .int .i64 a1_8]) (t := 39) ?hr ?_; (case hd => rfl); (case hg => rfl); (case hr => first | (go_simp; done) | (go_simp; rfl)); intro gb222 hg w33 hbox hb; have n0_ := qas (blk_below (g := gb221) (o := .cells #[.string a0_0, .bool a0_1, .slice A0_2 l0_2.length c0_2, .int .i64 a0_3, .int .i64 a0_4, .int .i64 a0_5, .string a0_6, .int .i64 a0_7, .int .i64 a0_8] 39 (0, 0)) (by (with_reducible repeat (first | refine qkA ?_ _ | refine qkB ?_ | refine qkC ?_ _)); exact BK221.out) hb); have n1_ := qas (below_step (by repeat (first | (with_reducible first | exact HB.out | apply qbA | apply qbB | apply qbC | refine below_set ?_ GE221.out) | exact HB.out)) hb); have n2_ := qas (hbox); have n3_ := qas ((by rw [hg]; exact (below_size (by repeat (first | (with_reducible first | exact HB.out | apply qbA | apply qbB | apply qbC | refine below_set ?_ GE221.out) | exact HB.out))) : w.heap.size ≤ gb222)); have n4_ := qas ((by rw [hg]; exact (below_size (by repeat (first | (with_reducible first | exact HB.out | apply qbA | apply qbB | apply qbC | refine below_set ?_ GE221.out) | exact HB.out))) : w.heap.size ≤ gb222)); have n5_ := qas ((by rw [hg]; exact Nat.ne_of_lt (blk_lt (g := gb221) (o := .cells #[.string a0_0, .bool a0_1, .slice A0_2 l0_2.length c0_2, .int .i64 a0_3, .int .i64 a0_4, .int .i64 a0_5, .string a0_6, .int .i64 a0_7, .int .i64 a0_8] 39 (0, 0)) (by (with_reducible repeat (first | refine qkA ?_ _ | refine qkB ?_ | refine qkC ?_ _)); exact BK221.out)) : gb221 ≠ gb222)); have n6_ := qas ((by rw [hg]; exact Nat.ne_of_gt (blk_lt (g := gb221) (o := .cells #[.string a0_0, .bool a0_1, .slice A0_2 l0_2.length c0_2, .int .i64 a0_3, .int .i64 a0_4, .int .i64 a0_5, .string a0_6, .int .i64 a0_7, .int .i64 a0_8] 39 (0, 0)) (by (with_reducible repeat (first | refine qkA ?_ _ | refine qkB ?_ | refine qkC ?_ _)); exact BK221.out)) : gb222 ≠ gb221)); clear BK221; clear HB; have BK221 := n0_; have HB := n1_; have BK222 := n2_; have GW222 := n3_; have GE222 := n4_; have NB221_222 := n5_; have NB222_221 := n6_; clear n0_ n1_ n2_ n3_ n4_ n5_ n6_; clear hb hbox hg; have hnb34 := NB221_222.out; have hnc34 := NB222_221.out; have hcz35_0 : w33.cell? ⟨gb221, 0, none⟩ = some (.string a0_0) := (blk_cell BK221.out 0).trans rfl; have hcz35_1 : w33.cell? ⟨gb221, 1, none⟩ = some (.bool a0_1) := (blk_cell BK221.out 1).trans rfl; have hcz35_2 : w33.cell? ⟨gb221, 2, none⟩ = some (.slice A0_2 l0_2.length c0_2) := (blk_cell BK221.out 2).trans rfl; have hcz35_3 : w33.cell? ⟨gb221, 3, none⟩ = some (.int .i64 a0_3) := (blk_cell BK221.out 3).trans rfl; have hcz35_4 : w33.cell? ⟨gb221, 4, none⟩ = some (.int .i64 a0_4) := (blk_cell BK221.out 4).trans rfl; have hcz35_5 : w33.cell? ⟨gb221, 5, none⟩ = some (.int .i64 a0_5) := (blk_cell BK221.out 5).trans rfl; have hcz35_6 : w33.cell? ⟨gb221, 6, none⟩ = some (.string a0_6) := (blk_cell BK221.out 6).trans rfl; have hcz35_7 : w33.cell? ⟨gb221, 7, none⟩ = some (.int .i64 a0_7) := (blk_cell BK221.out 7).trans rfl; have hcz35_8 : w33.cell? ⟨gb221, 8, none⟩ = some (.int .i64 a0_8) := (blk_cell BK221.out 8).trans rfl; have hfz35_0 := blk_frozen BK221.out 0; have hfz35_1 := blk_frozen BK221.out 1; have hfz35_2 := blk_frozen BK221.out 2; have hfz35_3 := blk_frozen BK221.out 3; have hfz35_4 := blk_frozen BK221.out 4; have hfz35_5 := blk_frozen BK221.out 5; have hfz35_6 := blk_frozen BK221.out 6; have hfz35_7 := blk_frozen BK221.out 7; have hfz35_8 := blk_frozen BK221.out 8; have hcz36_0 : w33.cell? ⟨gb222, 0, none⟩ = some (.string a1_0) := (blk_cell BK222.out 0).trans rfl; have hcz36_1 : w33.cell? ⟨gb222, 1, none⟩ = some (.bool a1_1) := (blk_cell BK222.out 1).trans rfl; have hcz36_2 : w33.cell? ⟨gb222, 2, none⟩ = some (.slice A1_2 l1_2.length c1_2) := (blk_cell BK222.out 2).trans rfl; have hcz36_3 : w33.cell? ⟨gb222, 3, none⟩ = some (.int .i64 a1_3) := (blk_cell BK222.out 3).trans rfl; have hcz36_4 : w33.cell? ⟨gb222, 4, none⟩ = some (.int .i64 a1_4) := (blk_cell BK222.out 4).trans rfl; have hcz36_5 : w33.cell? ⟨gb222, 5, none⟩ = some (.int .i64 a1_5) := (blk_cell BK222.out 5).trans rfl; have hcz36_6 : w33.cell? ⟨gb222, 6, none⟩ = some (.string a1_6) := (blk_cell BK222.out 6).trans rfl; have hcz36_7 : w33.cell? ⟨gb222, 7, none⟩ = some (.int .i64 a1_7) := (blk_cell BK222.out 7).trans rfl; have hcz36_8 : w33.cell? ⟨gb222, 8, none⟩ = some (.int .i64 a1_8) := (blk_cell BK222.out 8).trans rfl; have hfz36_0 := blk_frozen BK222.out 0; have hfz36_1 := blk_frozen BK222.out 1; have hfz36_2 := blk_frozen BK222.out 2; have hfz36_3 := blk_frozen BK222.out 3; have hfz36_4 := blk_frozen BK222.out 4; have hfz36_5 := blk_frozen BK222.out 5; have hfz36_6 := blk_frozen BK222.out 6; have hfz36_7 := blk_frozen BK222.out 7; have hfz36_8 := blk_frozen BK222.out 8) | (go_at_call 111; (with_reducible refine (pl_SameInts.calls k _ _ l0_2 _ _ l1_2 true _ ?side1 ?side2 ?side3 ?side4 A5.out).mono ?_); (case side1 => repeat (first | exact (Kd.C_below HR0_2.out HB.out) | (with_reducible refine Kd.C_alloc ?_ _) | (with_reducible refine Kd.C_drewN ?_ _) | (with_reducible refine Kd.C_drew ?_))); (case side2 => exact HC0_2.out); (case side3 => repeat (first | exact (Kd.C_below HR1_2.out HB.out) | (with_reducible refine Kd.C_alloc ?_ _) | (with_reducible refine Kd.C_drewN ?_ _) | (with_reducible refine Kd.C_drew ?_))); (case side4 => exact HC1_2.out); rintro e w' ⟨rfl, ⟨nd, rfl⟩⟩))
  go_ret
  exact ⟨by first | rfl | (simp [errW_none, errW_some] <;> rfl) | (simp [*, errW_none, errW_some] <;> rfl), by repeat (first | (with_reducible first | exact HB.out | apply qbA | apply qbB | apply qbC | refine below_set ?_ GE221.out | refine below_set ?_ GE222.out) | exact HB.out)⟩
 rw [if_pos c8] at H
 have c8b0 : (a0_4 == a1_4) = true := beq_iff_eq.mpr c8
 have c8b1 : (a0_4 != a1_4) = false := bne_eq_false_iff_eq.mpr c8
 clear c8
 by_cases c9 : a0_5 = a1_5
 rotate_left
 ·rw [if_neg c9] at H
  have c9b0 : (a0_5 == a1_5) = false := beq_eq_false_iff_ne.mpr c9
  have c9b1 : (a0_5 != a1_5) = true := bne_iff_ne.mpr c9
  obtain rfl := Option.some.inj H
  go_enter Tryd.func88, Tryd.ntmps88
  go_wp2_with (first | ((with_reducible refine gate_dst (N := 2) rfl ?_); refine box_event ?hg (N := 2) ?hd (cs := #[.string a0_0, .bool a0_1, .slice A0_2 l0_2.length c0_2, .int .i64 a0_3, .int .i64 a0_4, .int .i64 a0_5, .string a0_6, .int .i64 a0_7, .int .i64 a0_8]) (t := 39) ?hr ?_; (case hd => rfl); (case hg => rfl); (case hr => first | (go_simp; done) | (go_simp; rfl)); intro gb221 hg w27 hbox hb; have n0_ := qas (below_step (by repeat (first | (with_reducible first | exact HB.out | apply qbA | apply qbB | apply qbC) | exact HB.out)) hb); have n1_ := qas (hbox); have n2_ := qas ((by rw [hg]; exact (below_size (by repeat (first | (with_reducible first | exact HB.out | apply qbA | apply qbB | apply qbC) | exact HB.out))) : w.heap.size ≤ gb221)); have n3_ := qas ((by rw [hg]; exact (below_size (by repeat (first | (with_reducible first | exact HB.out | apply qbA | apply qbB | apply qbC) | exact HB.out))) : w.heap.size ≤ gb221)); clear HB; have HB := n0_; have BK221 := n1_; have GW221 := n2_; have GE221 := n3_; clear n0_ n1_ n2_ n3_; clear hb hbox hg) | ((with_reducible refine gate_dst (N := 3) rfl ?_); refine box_event ?hg (N := 3) ?hd (cs := #[.string a1_0, .bool a1_1, .slice A1_2 l1_2.length c1_2, .int .i64 a1_3, .int .i64 a1_4, .int .i64 a1_5, .string a1_6, .int .i64 a1_7, .int .i64 a1_8]) (t := 39) ?hr ?_; (case hd => rfl); (case hg => rfl); (case hr => first | (go_simp; done) | (go_simp; rfl)); intro gb222 hg w28 hbox hb; have n0_ := qas (blk_below (g := gb221) (o := .cells #[.string a0_0, .bool a0_1, .slice A0_2 l0_2.length c0_2, .int .i64 a0_3, .int .i64 a0_4, .int .i64 a0_5, .string a0_6, .int .i64 a0_7, .int .i64 a0_8] 39 (0, 0)) (by (with_reducible repeat (first | refine qkA ?_ _ | refine qkB ?_ | refine qkC ?_ _)); exact BK221.out) hb); have n1_ := qas (below_step (by repeat (first | (with_reducible first | exact HB.out | apply qbA | apply qbB | apply qbC | refine below_set ?_ GE221.out) | exact HB.out)) hb); have n2_ := qas (hbox); have n3_ := qas ((by rw [hg]; exact (below_size (by repeat (first | (with_reducible first | exact HB.out | apply qbA | apply qbB | apply qbC | refine below_set ?_ GE221.out) | exact HB.out))) : w.heap.size ≤ gb222)); have n4_ := qas ((by rw [hg]; exact (below_size (by repeat (first | (with_reducible first | exact HB.out | apply qbA | apply qbB | apply qbC | refine below_set ?_ GE221.out) | exact HB.out))) : w.heap.size ≤ gb222)); have n5_ := qas ((by rw [hg]; exact Nat.ne_of_lt (blk_lt (g := gb221) (o := .cells #[.string a0_0, .bool a0_1, .slice A0_2 l0_2.length c0_2, .int .i64 a0_3, .int .i64 a0_4, .int .i64 a0_5, .string a0_6, .int .i64 a0_7, .int .i64 a0_8] 39 (0, 0)) (by (with_reducible repeat (first | refine qkA ?_ _ | refine qkB ?_ | refine qkC ?_ _)); exact BK221.out)) : gb221 ≠ gb222)); have n6_ := qas ((by rw [hg]; exact Nat.ne_of_gt (blk_lt (g := gb221) (o := .cells #[.string a0_0, .bool a0_1, .slice A0_2 l0_2.length c0_2, .int .i64 a0_3, .int .i64 a0_4, .int .i64 a0_5, .string a0_6, .int .i64 a0_7, .int .i64 a0_8] 39 (0, 0)) (by (with_reducible repeat (first | refine qkA ?_ _ | refine qkB ?_ | refine qkC ?_ _)); exact BK221.out)) : gb222 ≠ gb221)); clear BK221; clear HB; have BK221 := n0_; have HB := n1_; have BK222 := n2_; have GW222 := n3_; have GE222 := n4_; have NB221_222 := n5_; have NB222_221 := n6_; clear n0_ n1_ n2_ n3_ n4_ n5_ n6_; clear hb hbox hg; have hnb29 := NB221_222.out; have hnc29 := NB222_221.out; have hcz30_0 : w28.cell? ⟨gb221, 0, none⟩ = some (.string a0_0) := (blk_cell BK221.out 0).trans rfl; have hcz30_1 : w28.cell? ⟨gb221, 1, none⟩ = some (.bool a0_1) := (blk_cell BK221.out 1).trans rfl; have hcz30_2 : w28.cell? ⟨gb221, 2, none⟩ = some (.slice A0_2 l0_2.length c0_2) := (blk_cell BK221.out 2).trans rfl; have hcz30_3 : w28.cell? ⟨gb221, 3, none⟩ = some (.int .i64 a0_3) := (blk_cell BK221.out 3).trans rfl; have hcz30_4 : w28.cell? ⟨gb221, 4, none⟩ = some (.int .i64 a0_4) := (blk_cell BK221.out 4).trans rfl; have hcz30_5 : w28.cell? ⟨gb221, 5, none⟩ = some (.int .i64 a0_5) := (blk_cell BK221.out 5).trans rfl; have hcz30_6 : w28.cell? ⟨gb221, 6, none⟩ = some (.string a0_6) := (blk_cell BK221.out 6).trans rfl; have hcz30_7 : w28.cell? ⟨gb221, 7, none⟩ = some (.int .i64 a0_7) := (blk_cell BK221.out 7).trans rfl; have hcz30_8 : w28.cell? ⟨gb221, 8, none⟩ = some (.int .i64 a0_8) := (blk_cell BK221.out 8).trans rfl; have hfz30_0 := blk_frozen BK221.out 0; have hfz30_1 := blk_frozen BK221.out 1; have hfz30_2 := blk_frozen BK221.out 2; have hfz30_3 := blk_frozen BK221.out 3; have hfz30_4 := blk_frozen BK221.out 4; have hfz30_5 := blk_frozen BK221.out 5; have hfz30_6 := blk_frozen BK221.out 6; have hfz30_7 := blk_frozen BK221.out 7; have hfz30_8 := blk_frozen BK221.out 8; have hcz31_0 : w28.cell? ⟨gb222, 0, none⟩ = some (.string a1_0) := (blk_cell BK222.out 0).trans rfl; have hcz31_1 : w28.cell? ⟨gb222, 1, none⟩ = some (.bool a1_1) := (blk_cell BK222.out 1).trans rfl; have hcz31_2 : w28.cell? ⟨gb222, 2, none⟩ = some (.slice A1_2 l1_2.length c1_2) := (blk_cell BK222.out 2).trans rfl; have hcz31_3 : w28.cell? ⟨gb222, 3, none⟩ = some (.int .i64 a1_3) := (blk_cell BK222.out 3).trans rfl; have hcz31_4 : w28.cell? ⟨gb222, 4, none⟩ = some (.int .i64 a1_4) := (blk_cell BK222.out 4).trans rfl; have hcz31_5 : w28.cell? ⟨gb222, 5, none⟩ = some (.int .i64 a1_5) := (blk_cell BK222.out 5).trans rfl; have hcz31_6 : w28.cell? ⟨gb222, 6, none⟩ = some (.string a1_6) := (blk_cell BK222.out 6).trans rfl; have hcz31_7 : w28.cell? ⟨gb222, 7, none⟩ = some (.int .i64 a1_7) := (blk_cell BK222.out 7).trans rfl; have hcz31_8 : w28.cell? ⟨gb222, 8, none⟩ = some (.int .i64 a1_8) := (blk_cell BK222.out 8).trans rfl; have hfz31_0 := blk_frozen BK222.out 0; have hfz31_1 := blk_frozen BK222.out 1; have hfz31_2 := blk_frozen BK222.out 2; have hfz31_3 := blk_frozen BK222.out 3; have hfz31_4 := blk_frozen BK222.out 4; have hfz31_5 := blk_frozen BK222.out 5; have hfz31_6 := blk_frozen BK222.out 6; have hfz31_7 := blk_frozen BK222.out 7; have hfz31_8 := blk_frozen BK222.out 8) | (go_at_call 111; (with_reducible refine (pl_SameInts.calls k _ _ l0_2 _ _ l1_2 true _ ?side1 ?side2 ?side3 ?side4 A5.out).mono ?_); (case side1 => repeat (first | exact (Kd.C_below HR0_2.out HB.out) | (with_reducible refine Kd.C_alloc ?_ _) | (with_reducible refine Kd.C_drewN ?_ _) | (with_reducible refine Kd.C_drew ?_))); (case side2 => exact HC0_2.out); (case side3 => repeat (first | exact (Kd.C_below HR1_2.out HB.out) | (with_reducible refine Kd.C_alloc ?_ _) | (with_reducible refine Kd.C_drewN ?_ _) | (with_reducible refine Kd.C_drew ?_))); (case side4 => exact HC1_2.out); rintro e w' ⟨rfl, ⟨nd, rfl⟩⟩))
  go_ret
  exact ⟨by first | rfl | (simp [errW_none, errW_some] <;> rfl) | (simp [*, errW_none, errW_some] <;> rfl), by repeat (first | (with_reducible first | exact HB.out | apply qbA | apply qbB | apply qbC | refine below_set ?_ GE221.out | refine below_set ?_ GE222.out) | exact HB.out)⟩
 rw [if_pos c9] at H
 have c9b0 : (a0_5 == a1_5) = true := beq_iff_eq.mpr c9
 have c9b1 : (a0_5 != a1_5) = false := bne_eq_false_iff_eq.mpr c9
 clear c9
 by_cases c10 : a0_6.toList = a1_6.toList
 rotate_left
 ·rw [if_neg c10] at H
  have c10b0 : (a0_6.toList == a1_6.toList) = false := beq_eq_false_iff_ne.mpr c10
  have c10b1 : (a0_6.toList != a1_6.toList) = true := bne_iff_ne.mpr c10
  obtain rfl := Option.some.inj H
  go_enter Tryd.func88, Tryd.ntmps88
  go_wp2_with (first | ((with_reducible refine gate_dst (N := 2) rfl ?_); refine box_event ?hg (N := 2) ?hd (cs := #[.string a0_0, .bool a0_1, .slice A0_2 l0_2.length c0_2, .int .i64 a0_3, .int .i64 a0_4, .int .i64 a0_5, .string a0_6, .int .i64 a0_7, .int .i64 a0_8]) (t := 39) ?hr ?_; (case hd => rfl); (case hg => rfl); (case hr => first | (go_simp; done) | (go_simp; rfl)); intro gb221 hg w22 hbox hb; have n0_ := qas (below_step (by repeat (first | (with_reducible first | exact HB.out | apply qbA | apply qbB | apply qbC) | exact HB.out)) hb); have n1_ := qas (hbox); have n2_ := qas ((by rw [hg]; exact (below_size (by repeat (first | (with_reducible first | exact HB.out | apply qbA | apply qbB | apply qbC) | exact HB.out))) : w.heap.size ≤ gb221)); have n3_ := qas ((by rw [hg]; exact (below_size (by repeat (first | (with_reducible first | exact HB.out | apply qbA | apply qbB | apply qbC) | exact HB.out))) : w.heap.size ≤ gb221)); clear HB; have HB := n0_; have BK221 := n1_; have GW221 := n2_; have GE221 := n3_; clear n0_ n1_ n2_ n3_; clear hb hbox hg) | ((with_reducible refine gate_dst (N := 3) rfl ?_); refine box_event ?hg (N := 3) ?hd (cs := #[.string a1_0, .bool a1_1, .slice A1_2 l1_2.length c1_2, .int .i64 a1_3, .int .i64 a1_4, .int .i64 a1_5, .string a1_6, .int .i64 a1_7, .int .i64 a1_8]) (t := 39) ?hr ?_; (case hd => rfl); (case hg => rfl); (case hr => first | (go_simp; done) | (go_simp; rfl)); intro gb222 hg w23 hbox hb; have n0_ := qas (blk_below (g := gb221) (o := .cells #[.string a0_0, .bool a0_1, .slice A0_2 l0_2.length c0_2, .int .i64 a0_3, .int .i64 a0_4, .int .i64 a0_5, .string a0_6, .int .i64 a0_7, .int .i64 a0_8] 39 (0, 0)) (by (with_reducible repeat (first | refine qkA ?_ _ | refine qkB ?_ | refine qkC ?_ _)); exact BK221.out) hb); have n1_ := qas (below_step (by repeat (first | (with_reducible first | exact HB.out | apply qbA | apply qbB | apply qbC | refine below_set ?_ GE221.out) | exact HB.out)) hb); have n2_ := qas (hbox); have n3_ := qas ((by rw [hg]; exact (below_size (by repeat (first | (with_reducible first | exact HB.out | apply qbA | apply qbB | apply qbC | refine below_set ?_ GE221.out) | exact HB.out))) : w.heap.size ≤ gb222)); have n4_ := qas ((by rw [hg]; exact (below_size (by repeat (first | (with_reducible first | exact HB.out | apply qbA | apply qbB | apply qbC | refine below_set ?_ GE221.out) | exact HB.out))) : w.heap.size ≤ gb222)); have n5_ := qas ((by rw [hg]; exact Nat.ne_of_lt (blk_lt (g := gb221) (o := .cells #[.string a0_0, .bool a0_1, .slice A0_2 l0_2.length c0_2, .int .i64 a0_3, .int .i64 a0_4, .int .i64 a0_5, .string a0_6, .int .i64 a0_7, .int .i64 a0_8] 39 (0, 0)) (by (with_reducible repeat (first | refine qkA ?_ _ | refine qkB ?_ | refine qkC ?_ _)); exact BK221.out)) : gb221 ≠ gb222)); have n6_ := qas ((by rw [hg]; exact Nat.ne_of_gt (blk_lt (g := gb221) (o := .cells #[.string a0_0, .bool a0_1, .slice A0_2 l0_2.length c0_2, .int .i64 a0_3, .int .i64 a0_4, .int .i64 a0_5, .string a0_6, .int .i64 a0_7, .int .i64 a0_8] 39 (0, 0)) (by (with_reducible repeat (first | refine qkA ?_ _ | refine qkB ?_ | refine qkC ?_ _)); exact BK221.out)) : gb222 ≠ gb221)); clear BK221; clear HB; have BK221 := n0_; have HB := n1_; have BK222 := n2_; have GW222 := n3_; have GE222 := n4_; have NB221_222 := n5_; have NB222_221 := n6_; clear n0_ n1_ n2_ n3_ n4_ n5_ n6_; clear hb hbox hg; have hnb24 := NB221_222.out; have hnc24 := NB222_221.out; have hcz25_0 : w23.cell? ⟨gb221, 0, none⟩ = some (.string a0_0) := (blk_cell BK221.out 0).trans rfl; have hcz25_1 : w23.cell? ⟨gb221, 1, none⟩ = some (.bool a0_1) := (blk_cell BK221.out 1).trans rfl; have hcz25_2 : w23.cell? ⟨gb221, 2, none⟩ = some (.slice A0_2 l0_2.length c0_2) := (blk_cell BK221.out 2).trans rfl; have hcz25_3 : w23.cell? ⟨gb221, 3, none⟩ = some (.int .i64 a0_3) := (blk_cell BK221.out 3).trans rfl; have hcz25_4 : w23.cell? ⟨gb221, 4, none⟩ = some (.int .i64 a0_4) := (blk_cell BK221.out 4).trans rfl; have hcz25_5 : w23.cell? ⟨gb221, 5, none⟩ = some (.int .i64 a0_5) := (blk_cell BK221.out 5).trans rfl; have hcz25_6 : w23.cell? ⟨gb221, 6, none⟩ = some (.string a0_6) := (blk_cell BK221.out 6).trans rfl; have hcz25_7 : w23.cell? ⟨gb221, 7, none⟩ = some (.int .i64 a0_7) := (blk_cell BK221.out 7).trans rfl; have hcz25_8 : w23.cell? ⟨gb221, 8, none⟩ = some (.int .i64 a0_8) := (blk_cell BK221.out 8).trans rfl; have hfz25_0 := blk_frozen BK221.out 0; have hfz25_1 := blk_frozen BK221.out 1; have hfz25_2 := blk_frozen BK221.out 2; have hfz25_3 := blk_frozen BK221.out 3; have hfz25_4 := blk_frozen BK221.out 4; have hfz25_5 := blk_frozen BK221.out 5; have hfz25_6 := blk_frozen BK221.out 6; have hfz25_7 := blk_frozen BK221.out 7; have hfz25_8 := blk_frozen BK221.out 8; have hcz26_0 : w23.cell? ⟨gb222, 0, none⟩ = some (.string a1_0) := (blk_cell BK222.out 0).trans rfl; have hcz26_1 : w23.cell? ⟨gb222, 1, none⟩ = some (.bool a1_1) := (blk_cell BK222.out 1).trans rfl; have hcz26_2 : w23.cell? ⟨gb222, 2, none⟩ = some (.slice A1_2 l1_2.length c1_2) := (blk_cell BK222.out 2).trans rfl; have hcz26_3 : w23.cell? ⟨gb222, 3, none⟩ = some (.int .i64 a1_3) := (blk_cell BK222.out 3).trans rfl; have hcz26_4 : w23.cell? ⟨gb222, 4, none⟩ = some (.int .i64 a1_4) := (blk_cell BK222.out 4).trans rfl; have hcz26_5 : w23.cell? ⟨gb222, 5, none⟩ = some (.int .i64 a1_5) := (blk_cell BK222.out 5).trans rfl; have hcz26_6 : w23.cell? ⟨gb222, 6, none⟩ = some (.string a1_6) := (blk_cell BK222.out 6).trans rfl; have hcz26_7 : w23.cell? ⟨gb222, 7, none⟩ = some (.int .i64 a1_7) := (blk_cell BK222.out 7).trans rfl; have hcz26_8 : w23.cell? ⟨gb222, 8, none⟩ = some (.int .i64 a1_8) := (blk_cell BK222.out 8).trans rfl; have hfz26_0 := blk_frozen BK222.out 0; have hfz26_1 := blk_frozen BK222.out 1; have hfz26_2 := blk_frozen BK222.out 2; have hfz26_3 := blk_frozen BK222.out 3; have hfz26_4 := blk_frozen BK222.out 4; have hfz26_5 := blk_frozen BK222.out 5; have hfz26_6 := blk_frozen BK222.out 6; have hfz26_7 := blk_frozen BK222.out 7; have hfz26_8 := blk_frozen BK222.out 8) | (go_at_call 111; (with_reducible refine (pl_SameInts.calls k _ _ l0_2 _ _ l1_2 true _ ?side1 ?side2 ?side3 ?side4 A5.out).mono ?_); (case side1 => repeat (first | exact (Kd.C_below HR0_2.out HB.out) | (with_reducible refine Kd.C_alloc ?_ _) | (with_reducible refine Kd.C_drewN ?_ _) | (with_reducible refine Kd.C_drew ?_))); (case side2 => exact HC0_2.out); (case side3 => repeat (first | exact (Kd.C_below HR1_2.out HB.out) | (with_reducible refine Kd.C_alloc ?_ _) | (with_reducible refine Kd.C_drewN ?_ _) | (with_reducible refine Kd.C_drew ?_))); (case side4 => exact HC1_2.out); rintro e w' ⟨rfl, ⟨nd, rfl⟩⟩))
  go_ret
  exact ⟨by first | rfl | (simp [errW_none, errW_some] <;> rfl) | (simp [*, errW_none, errW_some] <;> rfl), by repeat (first | (with_reducible first | exact HB.out | apply qbA | apply qbB | apply qbC | refine below_set ?_ GE221.out | refine below_set ?_ GE222.out) | exact HB.out)⟩
 rw [if_pos c10] at H
 have c10b0 : (a0_6.toList == a1_6.toList) = true := beq_iff_eq.mpr c10
 have c10b1 : (a0_6.toList != a1_6.toList) = false := bne_eq_false_iff_eq.mpr c10
 clear c10
 by_cases c11 : a0_7 = a1_7
 rotate_left
 ·rw [if_neg c11] at H
  have c11b0 : (a0_7 == a1_7) = false := beq_eq_false_iff_ne.mpr c11
  have c11b1 : (a0_7 != a1_7) = true := bne_iff_ne.mpr c11
  obtain rfl := Option.some.inj H
  go_enter Tryd.func88, Tryd.ntmps88
  go_wp2_with (first | ((with_reducible refine gate_dst (N := 2) rfl ?_); refine box_event ?hg (N := 2) ?hd (cs := #[.string a0_0, .bool a0_1, .slice A0_2 l0_2.length c0_2, .int .i64 a0_3, .int .i64 a0_4, .int .i64 a0_5, .string a0_6, .int .i64 a0_7, .int .i64 a0_8]) (t := 39) ?hr ?_; (case hd => rfl); (case hg => rfl); (case hr => first | (go_simp; done) | (go_simp; rfl)); intro gb221 hg w17 hbox hb; have n0_ := qas (below_step (by repeat (first | (with_reducible first | exact HB.out | apply qbA | apply qbB | apply qbC) | exact HB.out)) hb); have n1_ := qas (hbox); have n2_ := qas ((by rw [hg]; exact (below_size (by repeat (first | (with_reducible first | exact HB.out | apply qbA | apply qbB | apply qbC) | exact HB.out))) : w.heap.size ≤ gb221)); have n3_ := qas ((by rw [hg]; exact (below_size (by repeat (first | (with_reducible first | exact HB.out | apply qbA | apply qbB | apply qbC) | exact HB.out))) : w.heap.size ≤ gb221)); clear HB; have HB := n0_; have BK221 := n1_; have GW221 := n2_; have GE221 := n3_; clear n0_ n1_ n2_ n3_; clear hb hbox hg) | ((with_reducible refine gate_dst (N := 3) rfl ?_); refine box_event ?hg (N := 3) ?hd (cs := #[.string a1_0, .bool a1_1, .slice A1_2 l1_2.length c1_2, .int .i64 a1_3, .int .i64 a1_4, .int .i64 a1_5, .string a1_6, .int .i64 a1_7, .int .i64 a1_8]) (t := 39) ?hr ?_; (case hd => rfl); (case hg => rfl); (case hr => first | (go_simp; done) | (go_simp; rfl)); intro gb222 hg w18 hbox hb; have n0_ := qas (blk_below (g := gb221) (o := .cells #[.string a0_0, .bool a0_1, .slice A0_2 l0_2.length c0_2, .int .i64 a0_3, .int .i64 a0_4, .int .i64 a0_5, .string a0_6, .int .i64 a0_7, .int .i64 a0_8] 39 (0, 0)) (by (with_reducible repeat (first | refine qkA ?_ _ | refine qkB ?_ | refine qkC ?_ _)); exact BK221.out) hb); have n1_ := qas (below_step (by repeat (first | (with_reducible first | exact HB.out | apply qbA | apply qbB | apply qbC | refine below_set ?_ GE221.out) | exact HB.out)) hb); have n2_ := qas (hbox); have n3_ := qas ((by rw [hg]; exact (below_size (by repeat (first | (with_reducible first | exact HB.out | apply qbA | apply qbB | apply qbC | refine below_set ?_ GE221.out) | exact HB.out))) : w.heap.size ≤ gb222)); have n4_ := qas ((by rw [hg]; exact (below_size (by repeat (first | (with_reducible first | exact HB.out | apply qbA | apply qbB | apply qbC | refine below_set ?_ GE221.out) | exact HB.out))) : w.heap.size ≤ gb222)); have n5_ := qas ((by rw [hg]; exact Nat.ne_of_lt (blk_lt (g := gb221) (o := .cells #[.string a0_0, .bool a0_1, .slice A0_2 l0_2.length c0_2, .int .i64 a0_3, .int .i64 a0_4, .int .i64 a0_5, .string a0_6, .int .i64 a0_7, .int .i64 a0_8] 39 (0, 0)) (by (with_reducible repeat (first | refine qkA ?_ _ | refine qkB ?_ | refine qkC ?_ _)); exact BK221.out)) : gb221 ≠ gb222)); have n6_ := qas ((by rw [hg]; exact Nat.ne_of_gt (blk_lt (g := gb221) (o := .cells #[.string a0_0, .bool a0_1, .slice A0_2 l0_2.length c0_2, .int .i64 a0_3, .int .i64 a0_4, .int .i64 a0_5, .string a0_6, .int .i64 a0_7, .int .i64 a0_8] 39 (0, 0)) (by (with_reducible repeat (first | refine qkA ?_ _ | refine qkB ?_ | refine qkC ?_ _)); exact BK221.out)) : gb222 ≠ gb221)); clear BK221; clear HB; have BK221 := n0_; have HB := n1_; have BK222 := n2_; have GW222 := n3_; have GE222 := n4_; have NB221_222 := n5_; have NB222_221 := n6_; clear n0_ n1_ n2_ n3_ n4_ n5_ n6_; clear hb hbox hg; have hnb19 := NB221_222.out; have hnc19 := NB222_221.out; have hcz20_0 : w18.cell? ⟨gb221, 0, none⟩ = some (.string a0_0) := (blk_cell BK221.out 0).trans rfl; have hcz20_1 : w18.cell? ⟨gb221, 1, none⟩ = some (.bool a0_1) := (blk_cell BK221.out 1).trans rfl; have hcz20_2 : w18.cell? ⟨gb221, 2, none⟩ = some (.slice A0_2 l0_2.length c0_2) := (blk_cell BK221.out 2).trans rfl; have hcz20_3 : w18.cell? ⟨gb221, 3, none⟩ = some (.int .i64 a0_3) := (blk_cell BK221.out 3).trans rfl; have hcz20_4 : w18.cell? ⟨gb221, 4, none⟩ = some (.int .i64 a0_4) := (blk_cell BK221.out 4).trans rfl; have hcz20_5 : w18.cell? ⟨gb221, 5, none⟩ = some (.int .i64 a0_5) := (blk_cell BK221.out 5).trans rfl; have hcz20_6 : w18.cell? ⟨gb221, 6, none⟩ = some (.string a0_6) := (blk_cell BK221.out 6).trans rfl; have hcz20_7 : w18.cell? ⟨gb221, 7, none⟩ = some (.int .i64 a0_7) := (blk_cell BK221.out 7).trans rfl; have hcz20_8 : w18.cell? ⟨gb221, 8, none⟩ = some (.int .i64 a0_8) := (blk_cell BK221.out 8).trans rfl; have hfz20_0 := blk_frozen BK221.out 0; have hfz20_1 := blk_frozen BK221.out 1; have hfz20_2 := blk_frozen BK221.out 2; have hfz20_3 := blk_frozen BK221.out 3; have hfz20_4 := blk_frozen BK221.out 4; have hfz20_5 := blk_frozen BK221.out 5; have hfz20_6 := blk_frozen BK221.out 6; have hfz20_7 := blk_frozen BK221.out 7; have hfz20_8 := blk_frozen BK221.out 8; have hcz21_0 : w18.cell? ⟨gb222, 0, none⟩ = some (.string a1_0) := (blk_cell BK222.out 0).trans rfl; have hcz21_1 : w18.cell? ⟨gb222, 1, none⟩ = some (.bool a1_1) := (blk_cell BK222.out 1).trans rfl; have hcz21_2 : w18.cell? ⟨gb222, 2, none⟩ = some (.slice A1_2 l1_2.length c1_2) := (blk_cell BK222.out 2).trans rfl; have hcz21_3 : w18.cell? ⟨gb222, 3, none⟩ = some (.int .i64 a1_3) := (blk_cell BK222.out 3).trans rfl; have hcz21_4 : w18.cell? ⟨gb222, 4, none⟩ = some (.int .i64 a1_4) := (blk_cell BK222.out 4).trans rfl; have hcz21_5 : w18.cell? ⟨gb222, 5, none⟩ = some (.int .i64 a1_5) := (blk_cell BK222.out 5).trans rfl; have hcz21_6 : w18.cell? ⟨gb222, 6, none⟩ = some (.string a1_6) := (blk_cell BK222.out 6).trans rfl; have hcz21_7 : w18.cell? ⟨gb222, 7, none⟩ = some (.int .i64 a1_7) := (blk_cell BK222.out 7).trans rfl; have hcz21_8 : w18.cell? ⟨gb222, 8, none⟩ = some (.int .i64 a1_8) := (blk_cell BK222.out 8).trans rfl; have hfz21_0 := blk_frozen BK222.out 0; have hfz21_1 := blk_frozen BK222.out 1; have hfz21_2 := blk_frozen BK222.out 2; have hfz21_3 := blk_frozen BK222.out 3; have hfz21_4 := blk_frozen BK222.out 4; have hfz21_5 := blk_frozen BK222.out 5; have hfz21_6 := blk_frozen BK222.out 6; have hfz21_7 := blk_frozen BK222.out 7; have hfz21_8 := blk_frozen BK222.out 8) | (go_at_call 111; (with_reducible refine (pl_SameInts.calls k _ _ l0_2 _ _ l1_2 true _ ?side1 ?side2 ?side3 ?side4 A5.out).mono ?_); (case side1 => repeat (first | exact (Kd.C_below HR0_2.out HB.out) | (with_reducible refine Kd.C_alloc ?_ _) | (with_reducible refine Kd.C_drewN ?_ _) | (with_reducible refine Kd.C_drew ?_))); (case side2 => exact HC0_2.out); (case side3 => repeat (first | exact (Kd.C_below HR1_2.out HB.out) | (with_reducible refine Kd.C_alloc ?_ _) | (with_reducible refine Kd.C_drewN ?_ _) | (with_reducible refine Kd.C_drew ?_))); (case side4 => exact HC1_2.out); rintro e w' ⟨rfl, ⟨nd, rfl⟩⟩))
  go_ret
  exact ⟨by first | rfl | (simp [errW_none, errW_some] <;> rfl) | (simp [*, errW_none, errW_some] <;> rfl), by repeat (first | (with_reducible first | exact HB.out | apply qbA | apply qbB | apply qbC | refine below_set ?_ GE221.out | refine below_set ?_ GE222.out) | exact HB.out)⟩
 rw [if_pos c11] at H
 have c11b0 : (a0_7 == a1_7) = true := beq_iff_eq.mpr c11
 have c11b1 : (a0_7 != a1_7) = false := bne_eq_false_iff_eq.mpr c11
 clear c11
 obtain rfl := Option.some.inj H
 go_enter Tryd.func88, Tryd.ntmps88
 go_wp2_with (first | ((with_reducible refine gate_dst (N := 2) rfl ?_); refine box_event ?hg (N := 2) ?hd (cs := #[.string a0_0, .bool a0_1, .slice A0_2 l0_2.length c0_2, .int .i64 a0_3, .int .i64 a0_4, .int .i64 a0_5, .string a0_6, .int .i64 a0_7, .int .i64 a0_8]) (t := 39) ?hr ?_; (case hd => rfl); (case hg => rfl); (case hr => first | (go_simp; done) | (go_simp; rfl)); intro gb221 hg w12 hbox hb; have n0_ := qas (below_step (by repeat (first | (with_reducible first | exact HB.out | apply qbA | apply qbB | apply qbC) | exact HB.out)) hb); have n1_ := qas (hbox); have n2_ := qas ((by rw [hg]; exact (below_size (by repeat (first | (with_reducible first | exact HB.out | apply qbA | apply qbB | apply qbC) | exact HB.out))) : w.heap.size ≤ gb221)); have n3_ := qas ((by rw [hg]; exact (below_size (by repeat (first | (with_reducible first | exact HB.out | apply qbA | apply qbB | apply qbC) | exact HB.out))) : w.heap.size ≤ gb221)); clear HB; have HB := n0_; have BK221 := n1_; have GW221 := n2_; have GE221 := n3_; clear n0_ n1_ n2_ n3_; clear hb hbox hg) | ((with_reducible refine gate_dst (N := 3) rfl ?_); refine box_event ?hg (N := 3) ?hd (cs := #[.string a1_0, .bool a1_1, .slice A1_2 l1_2.length c1_2, .int .i64 a1_3, .int .i64 a1_4, .int .i64 a1_5, .string a1_6, .int .i64 a1_7, .int .i64 a1_8]) (t := 39) ?hr ?_; (case hd => rfl); (case hg => rfl); (case hr => first | (go_simp; done) | (go_simp; rfl)); intro gb222 hg w13 hbox hb; have n0_ := qas (blk_below (g := gb221) (o := .cells #[.string a0_0, .bool a0_1, .slice A0_2 l0_2.length c0_2, .int .i64 a0_3, .int .i64 a0_4, .int .i64 a0_5, .string a0_6, .int .i64 a0_7, .int .i64 a0_8] 39 (0, 0)) (by (with_reducible repeat (first | refine qkA ?_ _ | refine qkB ?_ | refine qkC ?_ _)); exact BK221.out) hb); have n1_ := qas (below_step (by repeat (first | (with_reducible first | exact HB.out | apply qbA | apply qbB | apply qbC | refine below_set ?_ GE221.out) | exact HB.out)) hb); have n2_ := qas (hbox); have n3_ := qas ((by rw [hg]; exact (below_size (by repeat (first | (with_reducible first | exact HB.out | apply qbA | apply qbB | apply qbC | refine below_set ?_ GE221.out) | exact HB.out))) : w.heap.size ≤ gb222)); have n4_ := qas ((by rw [hg]; exact (below_size (by repeat (first | (with_reducible first | exact HB.out | apply qbA | apply qbB | apply qbC | refine below_set ?_ GE221.out) | exact HB.out))) : w.heap.size ≤ gb222)); have n5_ := qas ((by rw [hg]; exact Nat.ne_of_lt (blk_lt (g := gb221) (o := .cells #[.string a0_0, .bool a0_1, .slice A0_2 l0_2.length c0_2, .int .i64 a0_3, .int .i64 a0_4, .int .i64 a0_5, .string a0_6, .int .i64 a0_7, .int .i64 a0_8] 39 (0, 0)) (by (with_reducible repeat (first | refine qkA ?_ _ | refine qkB ?_ | refine qkC ?_ _)); exact BK221.out)) : gb221 ≠ gb222)); have n6_ := qas ((by rw [hg]; exact Nat.ne_of_gt (blk_lt (g := gb221) (o := .cells #[.string a0_0, .bool a0_1, .slice A0_2 l0_2.length c0_2, .int .i64 a0_3, .int .i64 a0_4, .int .i64 a0_5, .string a0_6, .int .i64 a0_7, .int .i64 a0_8] 39 (0, 0)) (by (with_reducible repeat (first | refine qkA ?_ _ | refine qkB ?_ | refine qkC ?_ _)); exact BK221.out)) : gb222 ≠ gb221)); clear BK221; clear HB; have BK221 := n0_; have HB := n1_; have BK222 := n2_; have GW222 := n3_; have GE222 := n4_; have NB221_222 := n5_; have NB222_221 := n6_; clear n0_ n1_ n2_ n3_ n4_ n5_ n6_; clear hb hbox hg; have hnb14 := NB221_222.out; have hnc14 := NB222_221.out; have hcz15_0 : w13.cell? ⟨gb221, 0, none⟩ = some (.string a0_0) := (blk_cell BK221.out 0).trans rfl; have hcz15_1 : w13.cell? ⟨gb221, 1, none⟩ = some (.bool a0_1) := (blk_cell BK221.out 1).trans rfl; have hcz15_2 : w13.cell? ⟨gb221, 2, none⟩ = some (.slice A0_2 l0_2.length c0_2) := (blk_cell BK221.out 2).trans rfl; have hcz15_3 : w13.cell? ⟨gb221, 3, none⟩ = some (.int .i64 a0_3) := (blk_cell BK221.out 3).trans rfl; have hcz15_4 : w13.cell? ⟨gb221, 4, none⟩ = some (.int .i64 a0_4) := (blk_cell BK221.out 4).trans rfl; have hcz15_5 : w13.cell? ⟨gb221, 5, none⟩ = some (.int .i64 a0_5) := (blk_cell BK221.out 5).trans rfl; have hcz15_6 : w13.cell? ⟨gb221, 6, none⟩ = some (.string a0_6) := (blk_cell BK221.out 6).trans rfl; have hcz15_7 : w13.cell? ⟨gb221, 7, none⟩ = some (.int .i64 a0_7) := (blk_cell BK221.out 7).trans rfl; have hcz15_8 : w13.cell? ⟨gb221, 8, none⟩ = some (.int .i64 a0_8) := (blk_cell BK221.out 8).trans rfl; have hfz15_0 := blk_frozen BK221.out 0; have hfz15_1 := blk_frozen BK221.out 1; have hfz15_2 := blk_frozen BK221.out 2; have hfz15_3 := blk_frozen BK221.out 3; have hfz15_4 := blk_frozen BK221.out 4; have hfz15_5 := blk_frozen BK221.out 5; have hfz15_6 := blk_frozen BK221.out 6; have hfz15_7 := blk_frozen BK221.out 7; have hfz15_8 := blk_frozen BK221.out 8; have hcz16_0 : w13.cell? ⟨gb222, 0, none⟩ = some (.string a1_0) := (blk_cell BK222.out 0).trans rfl; have hcz16_1 : w13.cell? ⟨gb222, 1, none⟩ = some (.bool a1_1) := (blk_cell BK222.out 1).trans rfl; have hcz16_2 : w13.cell? ⟨gb222, 2, none⟩ = some (.slice A1_2 l1_2.length c1_2) := (blk_cell BK222.out 2).trans rfl; have hcz16_3 : w13.cell? ⟨gb222, 3, none⟩ = some (.int .i64 a1_3) := (blk_cell BK222.out 3).trans rfl; have hcz16_4 : w13.cell? ⟨gb222, 4, none⟩ = some (.int .i64 a1_4) := (blk_cell BK222.out 4).trans rfl; have hcz16_5 : w13.cell? ⟨gb222, 5, none⟩ = some (.int .i64 a1_5) := (blk_cell BK222.out 5).trans rfl; have hcz16_6 : w13.cell? ⟨gb222, 6, none⟩ = some (.string a1_6) := (blk_cell BK222.out 6).trans rfl; have hcz16_7 : w13.cell? ⟨gb222, 7, none⟩ = some (.int .i64 a1_7) := (blk_cell BK222.out 7).trans rfl; have hcz16_8 : w13.cell? ⟨gb222, 8, none⟩ = some (.int .i64 a1_8) := (blk_cell BK222.out 8).trans rfl; have hfz16_0 := blk_frozen BK222.out 0; have hfz16_1 := blk_frozen BK222.out 1; have hfz16_2 := blk_frozen BK222.out 2; have hfz16_3 := blk_frozen BK222.out 3; have hfz16_4 := blk_frozen BK222.out 4; have hfz16_5 := blk_frozen BK222.out 5; have hfz16_6 := blk_frozen BK222.out 6; have hfz16_7 := blk_frozen BK222.out 7; have hfz16_8 := blk_frozen BK222.out 8) | (go_at_call 111; (with_reducible refine (pl_SameInts.calls k _ _ l0_2 _ _ l1_2 true _ ?side1 ?side2 ?side3 ?side4 A5.out).mono ?_); (case side1 => repeat (first | exact (Kd.C_below HR0_2.out HB.out) | (with_reducible refine Kd.C_alloc ?_ _) | (with_reducible refine Kd.C_drewN ?_ _) | (with_reducible refine Kd.C_drew ?_))); (case side2 => exact HC0_2.out); (case side3 => repeat (first | exact (Kd.C_below HR1_2.out HB.out) | (with_reducible refine Kd.C_alloc ?_ _) | (with_reducible refine Kd.C_drewN ?_ _) | (with_reducible refine Kd.C_drew ?_))); (case side4 => exact HC1_2.out); rintro e w' ⟨rfl, ⟨nd, rfl⟩⟩))
 go_ret
 exact ⟨by first | rfl | (simp [errW_none, errW_some] <;> rfl) | (simp [*, errW_none, errW_some] <;> rfl), by repeat (first | (with_reducible first | exact HB.out | apply qbA | apply qbB | apply qbC | refine below_set ?_ GE221.out | refine below_set ?_ GE222.out) | exact HB.out)⟩

attribute [local go_sem] max2_int min2_int max_two min_two max_three min_three max_four min_four   -- for this text's walks alone
set_option linter.unusedVariables false
set_option linter.unusedSimpArgs false

/-! ### pl_SameEntries: function 59 -/
def pl_SameEntries.l0 : Nat → List (S39) → List (S39) → Int → Option (Bool)
 | 0, _, _, _ => none
 | k + 1, x0, x1, x5 => if x5 < (x0.length : Int) then (if 0 ≤ x5 then (if x5 < (x1.length : Int) then ((pl_SameEntry.f k ((rd_T39 x0 x5).f0) ((rd_T39 x0 x5).f1) ((rd_T39 x0 x5).f2) ((rd_T39 x0 x5).f3) ((rd_T39 x0 x5).f4) ((rd_T39 x0 x5).f5) ((rd_T39 x0 x5).f6) ((rd_T39 x0 x5).f7) ((rd_T39 x0 x5).f8) ((rd_T39 x1 x5).f0) ((rd_T39 x1 x5).f1) ((rd_T39 x1 x5).f2) ((rd_T39 x1 x5).f3) ((rd_T39 x1 x5).f4) ((rd_T39 x1 x5).f5) ((rd_T39 x1 x5).f6) ((rd_T39 x1 x5).f7) ((rd_T39 x1 x5).f8)).bind fun t226 => (if t226 = true then (pl_SameEntries.l0 k x0 x1 (wrap64 (x5 + 1))) else (some false))) else (none)) else (none)) else (some true)
def pl_SameEntries.f (k : Nat) (l0 : List (S39)) (l1 : List (S39)) : Option (Bool) := if (l0.length : Int) = (l1.length : Int) then (pl_SameEntries.l0 k l0 l1 0) else (some false)
theorem pl_SameEntries.mono_l : ∀ k, (∀ y0 y1 y2, LeO (pl_SameEntries.l0 k y0 y1 y2) (pl_SameEntries.l0 (k + 1) y0 y1 y2))
 | 0 => fun _ _ _ r h => by simp [pl_SameEntries.l0] at h
 | k + 1 => by
  have ih0 := pl_SameEntries.mono_l k
  ·intro y0 y1 y2
   unfold pl_SameEntries.l0
   repeat' first
   | (with_reducible exact ih0 _ _ _)
   | (with_reducible exact pl_SameEntry.mono _ _ _ _ _ _ _ _ _ _ _ _ _ _ _ _ _ _ _)
   | (with_reducible exact LeO.refl _)
   | (with_reducible exact LeO.none _)
   | (with_reducible refine LeO.ite ?_ ?_)
   | (with_reducible refine LeO.bind ?_ (fun _ => ?_))
   | exact ih0 _ _ _
   | exact pl_SameEntry.mono _ _ _ _ _ _ _ _ _ _ _ _ _ _ _ _ _ _ _
   | exact LeO.none _
   | refine LeO.ite ?_ ?_
   | refine LeO.bind ?_ (fun _ => ?_)
theorem pl_SameEntries.mono : ∀ a0 a1 k, LeO (pl_SameEntries.f k a0 a1) (pl_SameEntries.f (k + 1) a0 a1) := by
 intro a0 a1 k
 have ih0 := pl_SameEntries.mono_l k
 unfold pl_SameEntries.f
 repeat' first
   | (with_reducible exact ih0 _ _ _)
   | (with_reducible exact pl_SameEntry.mono _ _ _ _ _ _ _ _ _ _ _ _ _ _ _ _ _ _ _)
   | (with_reducible exact LeO.refl _)
   | (with_reducible exact LeO.none _)
   | (with_reducible refine LeO.ite ?_ ?_)
   | (with_reducible refine LeO.bind ?_ (fun _ => ?_))
   | exact ih0 _ _ _
   | exact pl_SameEntry.mono _ _ _ _ _ _ _ _ _ _ _ _ _ _ _ _ _ _ _
   | exact LeO.none _
   | refine LeO.ite ?_ ?_
   | refine LeO.bind ?_ (fun _ => ?_)
def pl_SameEntries.T6 : Bool × List (List Nat × List Nat) := (true, [([], []), ([], []), ([0, 1], [0, 1]), ([2], [2]), ([], []), ([], []), ([4, 5], [4, 5]), ([6], [6]), ([3, 7], [3, 7]), ([8], [8])])
def pl_SameEntries.B6 : List Nat := [0, 0, 3, 7, 0, 0, 48, 112, 255, 511]
theorem pl_SameEntries.tab6 : rtab .any (opsOf Tryd.f59 6) = pl_SameEntries.T6 := by kernel_rfl
theorem pl_SameEntries.bits6 : waitsOk pl_SameEntries.T6.2 pl_SameEntries.B6 = true := by kernel_rfl
set_option maxHeartbeats 8000000 in
set_option maxRecDepth 100000 in
theorem pl_SameEntries.calls (k : Nat) (A0 : Option Addr) (c0 : Nat) (l0 : List (S39)) (A1 : Option Addr) (c1 : Nat) (l1 : List (S39)) (r : Bool) (w : World) (hr0 : Kd.C k39 w A0 l0.length l0) (hc0 : l0.length ≤ c0) (hr1 : Kd.C k39 w A1 l1.length l1) (hc1 : l1.length ≤ c1) (h : pl_SameEntries.f k l0 l1 = some r) :
  Calls Tryd.prog 59 #[.slice A0 l0.length c0, .slice A1 l1.length c1] w fun e w' => e = .returned (.bool r) ∧ Below w.heap.size w w' := by
 have hu39 := Tryd.underlying39
 have HR0 := qas hr0
 have HC0 := qas hc0
 clear hr0 hc0
 have HR1 := qas hr1
 have HC1 := qas hc1
 clear hr1 hc1
 have HB := qas (Below.refl w.heap.size w)
 have H : (if (l0.length : Int) = (l1.length : Int) then (pl_SameEntries.l0 k l0 l1 0) else (some false)) = some r := h
 clear h
 by_cases c3 : (l0.length : Int) = (l1.length : Int)
 rotate_left
 ·rw [if_neg c3] at H
  have c3b0 : ((l0.length : Int) == (l1.length : Int)) = false := beq_eq_false_iff_ne.mpr c3
  have c3b1 : ((l0.length : Int) != (l1.length : Int)) = true := bne_iff_ne.mpr c3
  have c3b2 : (l0.length == l1.length) = false := by first | simpa using c3 | (simp at c3 ⊢; omega)
  obtain rfl := Option.some.inj H
  go_enter Tryd.func59, Tryd.ntmps59
  go_wp2
  go_ret
  exact ⟨by first | rfl | (simp [errW_none, errW_some] <;> rfl) | (simp [*, errW_none, errW_some] <;> rfl), by repeat (first | (with_reducible first | exact HB.out | apply qbA | apply qbB | apply qbC) | exact HB.out)⟩
 rw [if_pos c3] at H
 have c3b0 : ((l0.length : Int) == (l1.length : Int)) = true := beq_iff_eq.mpr c3
 have c3b1 : ((l0.length : Int) != (l1.length : Int)) = false := bne_eq_false_iff_eq.mpr c3
 have c3b2 : (l0.length == l1.length) = true := by first | simpa using c3 | (simp at c3 ⊢; omega)
 clear c3
 have H' := qas H
 clear H
 go_enter Tryd.func59, Tryd.ntmps59
 go_wp2
 go_loopg [5] k (fun kq v5 w' => ∃ (x5_1 : Int), v5 = .int .i64 x5_1 ∧ Aside0 (pl_SameEntries.l0 kq l0 l1 x5_1 = some r) ∧ Aside0 (kq ≤ k) ∧ Aside0 (Below w.heap.size w w'))
 case atStart => exact ⟨(0), (by first | rfl | (simp; done) | (simp [*]; done)), H', ⟨Nat.le_refl _⟩, ⟨by repeat (first | (with_reducible first | exact HB.out | apply qbA | apply qbB | apply qbC) | exact HB.out)⟩⟩
 case round =>
  clear H'
  try clear c1
  try clear p2
  try clear c3
  try clear c3b0
  try clear c3b1
  try clear c3b2
  obtain ⟨x5_1, rfl, HA, HK1, HB⟩ := hrel
  cases gk with
  | zero => exact absurd HA.out (by simp [pl_SameEntries.l0])
  | succ k1 =>
   have H := HA.out
   clear HA
   simp only [pl_SameEntries.l0] at H
   by_cases c4 : x5_1 < (l0.length : Int)
   rotate_left
   ·rw [if_neg c4] at H
    have c4b0 : decide (x5_1 < (l0.length : Int)) = false := decide_eq_false c4
    clear c4
    obtain rfl := Option.some.inj H
    go_wp2
    go_ret
    exact ⟨by first | rfl | (simp [errW_none, errW_some] <;> rfl) | (simp [*, errW_none, errW_some] <;> rfl), by repeat (first | (with_reducible first | exact HB.out | apply qbA | apply qbB | apply qbC) | exact HB.out)⟩
   rw [if_pos c4] at H
   have c4b0 : decide (x5_1 < (l0.length : Int)) = true := decide_eq_true c4
   clear c4
   by_cases c5 : 0 ≤ x5_1
   rotate_left
   ·rw [if_neg c5] at H
    exact absurd H (by simp)
   rw [if_pos c5] at H
   have c5b0 : decide (0 ≤ x5_1) = true := decide_eq_true c5
   clear c5
   by_cases c6 : x5_1 < (l1.length : Int)
   rotate_left
   ·rw [if_neg c6] at H
    exact absurd H (by simp)
   rw [if_pos c6] at H
   have c6b0 : decide (x5_1 < (l1.length : Int)) = true := decide_eq_true c6
   clear c6
   replace H := Option.bind_eq_some_iff.mp H
   obtain ⟨t226, A70, H⟩ := H
   replace H : (if t226 = true then (pl_SameEntries.l0 k1 l0 l1 (wrap64 (x5_1 + 1))) else (some false)) = some r := H
   have A7 := qas A70
   clear A70
   by_cases c8 : t226 = true
   rotate_left
   ·replace c8 := Bool.eq_false_iff.mpr c8
    subst c8
    have H1 : (some false) = some r := by rw [if_neg (show ¬ (false = true) by decide)] at H; exact H
    clear H
    have H := H1
    clear H1
    obtain rfl := Option.some.inj H
    try go_wp2
    have n0_ := qas (qbC HB.out)
    clear HB
    have HB := n0_
    clear n0_
    have p224 : 0 ≤ (x5_1 : Int) := qde (by first | (with_reducible assumption) | assumption)
    have q224 : x5_1 < (l0.length : Int) := qde (by first | (with_reducible assumption) | assumption)
    obtain ⟨ad224, A224_2, c224_2, e224, hx224_0, hx224_1, hx224_2, hx224_3, hx224_4, hx224_5, hx224_6, hx224_7, hx224_8, hl224_2, hi224_2⟩ := at_T39 HR0.out x5_1 p224 q224
    have hw224_8 := hx224_8
    have hw224_7 := hx224_7
    have hw224_6 := hx224_6
    have hw224_5 := hx224_5
    have hw224_4 := hx224_4
    have hw224_3 := hx224_3
    have hw224_2 := hx224_2
    have hw224_1 := hx224_1
    have hw224_0 := hx224_0
    cases e224
    replace hx224_0 := (HB.out.cell (qbl w _ hx224_0)).trans hx224_0
    replace hx224_1 := (HB.out.cell (qbl w _ hx224_1)).trans hx224_1
    replace hx224_2 := (HB.out.cell (qbl w _ hx224_2)).trans hx224_2
    replace hx224_3 := (HB.out.cell (qbl w _ hx224_3)).trans hx224_3
    replace hx224_4 := (HB.out.cell (qbl w _ hx224_4)).trans hx224_4
    replace hx224_5 := (HB.out.cell (qbl w _ hx224_5)).trans hx224_5
    replace hx224_6 := (HB.out.cell (qbl w _ hx224_6)).trans hx224_6
    replace hx224_7 := (HB.out.cell (qbl w _ hx224_7)).trans hx224_7
    replace hx224_8 := (HB.out.cell (qbl w _ hx224_8)).trans hx224_8
    have HR224_2 := qas hi224_2
    have HC224_2 := qas hl224_2
    clear hi224_2 hl224_2
    replace p224 := eq_true p224
    replace q224 := eq_true q224
    have p225 : 0 ≤ (x5_1 : Int) := qde (by first | (with_reducible assumption) | assumption)
    have q225 : x5_1 < (l1.length : Int) := qde (by first | (with_reducible assumption) | assumption)
    obtain ⟨ad225, A225_2, c225_2, e225, hx225_0, hx225_1, hx225_2, hx225_3, hx225_4, hx225_5, hx225_6, hx225_7, hx225_8, hl225_2, hi225_2⟩ := at_T39 HR1.out x5_1 p225 q225
    have hw225_8 := hx225_8
    have hw225_7 := hx225_7
    have hw225_6 := hx225_6
    have hw225_5 := hx225_5
    have hw225_4 := hx225_4
    have hw225_3 := hx225_3
    have hw225_2 := hx225_2
    have hw225_1 := hx225_1
    have hw225_0 := hx225_0
    cases e225
    replace hx225_0 := (HB.out.cell (qbl w _ hx225_0)).trans hx225_0
    replace hx225_1 := (HB.out.cell (qbl w _ hx225_1)).trans hx225_1
    replace hx225_2 := (HB.out.cell (qbl w _ hx225_2)).trans hx225_2
    replace hx225_3 := (HB.out.cell (qbl w _ hx225_3)).trans hx225_3
    replace hx225_4 := (HB.out.cell (qbl w _ hx225_4)).trans hx225_4
    replace hx225_5 := (HB.out.cell (qbl w _ hx225_5)).trans hx225_5
    replace hx225_6 := (HB.out.cell (qbl w _ hx225_6)).trans hx225_6
    replace hx225_7 := (HB.out.cell (qbl w _ hx225_7)).trans hx225_7
    replace hx225_8 := (HB.out.cell (qbl w _ hx225_8)).trans hx225_8
    have HR225_2 := qas hi225_2
    have HC225_2 := qas hl225_2
    clear hi225_2 hl225_2
    replace p225 := eq_true p225
    replace q225 := eq_true q225
    refine start_ (n := 10) (S := fun w' => w'.cell? (ad224.add ((x5_1).toNat * 9)) = some (.string ((rd_T39 l0 x5_1).f0)) ∧ w'.cell? ⟨(ad224.add ((x5_1).toNat * 9)).block, (ad224.add ((x5_1).toNat * 9)).off + 1, none⟩ = some (.bool ((rd_T39 l0 x5_1).f1)) ∧ w'.cell? ⟨(ad224.add ((x5_1).toNat * 9)).block, (ad224.add ((x5_1).toNat * 9)).off + 2, none⟩ = some (.slice A224_2 ((rd_T39 l0 x5_1).f2).length c224_2) ∧ w'.cell? ⟨(ad224.add ((x5_1).toNat * 9)).block, (ad224.add ((x5_1).toNat * 9)).off + 3, none⟩ = some (.int .i64 ((rd_T39 l0 x5_1).f3)) ∧ w'.cell? ⟨(ad224.add ((x5_1).toNat * 9)).block, (ad224.add ((x5_1).toNat * 9)).off + 4, none⟩ = some (.int .i64 ((rd_T39 l0 x5_1).f4)) ∧ w'.cell? ⟨(ad224.add ((x5_1).toNat * 9)).block, (ad224.add ((x5_1).toNat * 9)).off + 5, none⟩ = some (.int .i64 ((rd_T39 l0 x5_1).f5)) ∧ w'.cell? ⟨(ad224.add ((x5_1).toNat * 9)).block, (ad224.add ((x5_1).toNat * 9)).off + 6, none⟩ = some (.string ((rd_T39 l0 x5_1).f6)) ∧ w'.cell? ⟨(ad224.add ((x5_1).toNat * 9)).block, (ad224.add ((x5_1).toNat * 9)).off + 7, none⟩ = some (.int .i64 ((rd_T39 l0 x5_1).f7)) ∧ w'.cell? ⟨(ad224.add ((x5_1).toNat * 9)).block, (ad224.add ((x5_1).toNat * 9)).off + 8, none⟩ = some (.int .i64 ((rd_T39 l0 x5_1).f8)) ∧ w'.cell? (ad225.add ((x5_1).toNat * 9)) = some (.string ((rd_T39 l1 x5_1).f0)) ∧ w'.cell? ⟨(ad225.add ((x5_1).toNat * 9)).block, (ad225.add ((x5_1).toNat * 9)).off + 1, none⟩ = some (.bool ((rd_T39 l1 x5_1).f1)) ∧ w'.cell? ⟨(ad225.add ((x5_1).toNat * 9)).block, (ad225.add ((x5_1).toNat * 9)).off + 2, none⟩ = some (.slice A225_2 ((rd_T39 l1 x5_1).f2).length c225_2) ∧ w'.cell? ⟨(ad225.add ((x5_1).toNat * 9)).block, (ad225.add ((x5_1).toNat * 9)).off + 3, none⟩ = some (.int .i64 ((rd_T39 l1 x5_1).f3)) ∧ w'.cell? ⟨(ad225.add ((x5_1).toNat * 9)).block, (ad225.add ((x5_1).toNat * 9)).off + 4, none⟩ = some (.int .i64 ((rd_T39 l1 x5_1).f4)) ∧ w'.cell? ⟨(ad225.add ((x5_1).toNat * 9)).block, (ad225.add ((x5_1).toNat * 9)).off + 5, none⟩ = some (.int .i64 ((rd_T39 l1 x5_1).f5)) ∧ w'.cell? ⟨(ad225.add ((x5_1).toNat * 9)).block, (ad225.add ((x5_1).toNat * 9)).off + 6, none⟩ = some (.string ((rd_T39 l1 x5_1).f6)) ∧ w'.cell? ⟨(ad225.add ((x5_1).toNat * 9)).block, (ad225.add ((x5_1).toNat * 9)).off + 7, none⟩ = some (.int .i64 ((rd_T39 l1 x5_1).f7)) ∧ w'.cell? ⟨(ad225.add ((x5_1).toNat * 9)).block, (ad225.add ((x5_1).toNat * 9)).off + 8, none⟩ = some (.int .i64 ((rd_T39 l1 x5_1).f8))) (ds := []) #[qf, qf, qf, qf, qf, qf, qf, qf, qf, qf] (by kernel_rfl) rfl rfl ⟨((HB.out.cell (qbl w _ hw224_0)).trans hw224_0), ((HB.out.cell (qbl w _ hw224_1)).trans hw224_1), ((HB.out.cell (qbl w _ hw224_2)).trans hw224_2), ((HB.out.cell (qbl w _ hw224_3)).trans hw224_3), ((HB.out.cell (qbl w _ hw224_4)).trans hw224_4), ((HB.out.cell (qbl w _ hw224_5)).trans hw224_5), ((HB.out.cell (qbl w _ hw224_6)).trans hw224_6), ((HB.out.cell (qbl w _ hw224_7)).trans hw224_7), ((HB.out.cell (qbl w _ hw224_8)).trans hw224_8), ((HB.out.cell (qbl w _ hw225_0)).trans hw225_0), ((HB.out.cell (qbl w _ hw225_1)).trans hw225_1), ((HB.out.cell (qbl w _ hw225_2)).trans hw225_2), ((HB.out.cell (qbl w _ hw225_3)).trans hw225_3), ((HB.out.cell (qbl w _ hw225_4)).trans hw225_4), ((HB.out.cell (qbl w _ hw225_5)).trans hw225_5), ((HB.out.cell (qbl w _ hw225_6)).trans hw225_6), ((HB.out.cell (qbl w _ hw225_7)).trans hw225_7), ((HB.out.cell (qbl w _ hw225_8)).trans hw225_8)⟩ (fun hHeld => ?_); refine with_tabW pl_SameEntries.tab6 pl_SameEntries.bits6 (fun HT_ HW_ => ?_)
    generalize wr.drew = w11 at HB HR224_2 HR225_2 hx224_0 hx224_1 hx224_2 hx224_3 hx224_4 hx224_5 hx224_6 hx224_7 hx224_8 hx225_0 hx225_1 hx225_2 hx225_3 hx225_4 hx225_5 hx225_6 hx225_7 hx225_8 hHeld ⊢
    refine pure_ (i := 0) (N := some 17) (v := ?_) (a' := ?_) #[qt, qf, qf, qf, qf, qf, qf, qf, qf, qf] rfl rfl (any_of HT_.out (by kernel_rfl)) (fun _ _ _ h => h) (Or.inl ⟨by rfl, ?_⟩) ?_ ?_
    rotate_left
    ·intro w'
     go_simp
     with_reducible rfl
    rotate_left
    ·simp only [Act.put, qsA, qsB, qsC, i64_w, i32_w, qsD, qsE]
     rfl
    refine pure_ (i := 1) (N := some 18) (v := ?_) (a' := ?_) #[qt, qt, qf, qf, qf, qf, qf, qf, qf, qf] rfl rfl (any_of HT_.out (by kernel_rfl)) (fun _ _ _ h => h) (Or.inl ⟨by rfl, ?_⟩) ?_ ?_
    rotate_left
    ·intro w'
     go_simp
     with_reducible rfl
    rotate_left
    ·simp only [Act.put, qsA, qsB, qsC, i64_w, i32_w, qsD, qsE]
     rfl
    refine pure_ (i := 2) (N := some 19) (v := ?_) (a' := ?_) #[qt, qt, qt, qf, qf, qf, qf, qf, qf, qf] rfl rfl (any_of HT_.out (by kernel_rfl)) (fun _ _ _ h => h) (Or.inl ⟨by rfl, ?_⟩) ?_ ?_
    rotate_left
    ·intro w'
     go_simp
     with_reducible rfl
    rotate_left
    ·simp only [Act.put, qsA, qsB, qsC, i64_w, i32_w, qsD, qsE]
     rfl
    refine pure_ (i := 4) (N := some 21) (v := ?_) (a' := ?_) #[qt, qt, qt, qf, qt, qf, qf, qf, qf, qf] rfl rfl (any_of HT_.out (by kernel_rfl)) (fun _ _ _ h => h) (Or.inl ⟨by rfl, ?_⟩) ?_ ?_
    rotate_left
    ·intro w'
     go_simp
     with_reducible rfl
    rotate_left
    ·simp only [Act.put, qsA, qsB, qsC, i64_w, i32_w, qsD, qsE]
     rfl
    refine pure_ (i := 5) (N := some 22) (v := ?_) (a' := ?_) #[qt, qt, qt, qf, qt, qt, qf, qf, qf, qf] rfl rfl (any_of HT_.out (by kernel_rfl)) (fun _ _ _ h => h) (Or.inl ⟨by rfl, ?_⟩) ?_ ?_
    rotate_left
    ·intro w'
     go_simp
     with_reducible rfl
    rotate_left
    ·simp only [Act.put, qsA, qsB, qsC, i64_w, i32_w, qsD, qsE]
     rfl
    refine pure_ (i := 6) (N := some 23) (v := ?_) (a' := ?_) #[qt, qt, qt, qf, qt, qt, qt, qf, qf, qf] rfl rfl (any_of HT_.out (by kernel_rfl)) (fun _ _ _ h => h) (Or.inl ⟨by rfl, ?_⟩) ?_ ?_
    rotate_left
    ·intro w'
     go_simp
     with_reducible rfl
    rotate_left
    ·simp only [Act.put, qsA, qsB, qsC, i64_w, i32_w, qsD, qsE]
     rfl
    refine take_ (i := 3) (N := some 20) (v := ?_) (a' := ?_) #[qt, qt, qt, qt, qt, qt, qt, qf, qf, qf] rfl rfl (take_ofW HT_.out HW_.out (by kernel_rfl)) (fun _ _ _ h => h) (Or.inl ⟨by rfl, ?_⟩) hHeld ?_ ?_
    rotate_left
    ·rintro w' ⟨s0, s1, s2, s3, s4, s5, s6, s7, s8, s9, s10, s11, s12, s13, s14, s15, s16, s17⟩
     go_simp
     with_reducible rfl
    rotate_left
    ·simp only [Act.put, qsA, qsB, qsC, i64_w, i32_w, qsD, qsE]
     rfl
    refine take_ (i := 7) (N := some 24) (v := ?_) (a' := ?_) #[qt, qt, qt, qt, qt, qt, qt, qt, qf, qf] rfl rfl (take_ofW HT_.out HW_.out (by kernel_rfl)) (fun _ _ _ h => h) (Or.inl ⟨by rfl, ?_⟩) hHeld ?_ ?_
    rotate_left
    ·rintro w' ⟨s0, s1, s2, s3, s4, s5, s6, s7, s8, s9, s10, s11, s12, s13, s14, s15, s16, s17⟩
     go_simp
     with_reducible rfl
    rotate_left
    ·simp only [Act.put, qsA, qsB, qsC, i64_w, i32_w, qsD, qsE]
     rfl
    refine one_ (i := 8) (N := some 25) #[qt, qt, qt, qt, qt, qt, qt, qt, qt, qf] rfl rfl (one_of HT_.out (by kernel_rfl)) (by decide) (fun K hK => ?_)
    refine goes_ Tryd.func88 (by kernel_rfl) rfl #[.agg #[.string ((rd_T39 l0 x5_1).f0), .bool ((rd_T39 l0 x5_1).f1), .slice A224_2 ((rd_T39 l0 x5_1).f2).length c224_2, .int .i64 ((rd_T39 l0 x5_1).f3), .int .i64 ((rd_T39 l0 x5_1).f4), .int .i64 ((rd_T39 l0 x5_1).f5), .string ((rd_T39 l0 x5_1).f6), .int .i64 ((rd_T39 l0 x5_1).f7), .int .i64 ((rd_T39 l0 x5_1).f8)], .agg #[.string ((rd_T39 l1 x5_1).f0), .bool ((rd_T39 l1 x5_1).f1), .slice A225_2 ((rd_T39 l1 x5_1).f2).length c225_2, .int .i64 ((rd_T39 l1 x5_1).f3), .int .i64 ((rd_T39 l1 x5_1).f4), .int .i64 ((rd_T39 l1 x5_1).f5), .string ((rd_T39 l1 x5_1).f6), .int .i64 ((rd_T39 l1 x5_1).f7), .int .i64 ((rd_T39 l1 x5_1).f8)]] (by rfl) rfl rfl (by (try simp only [List.map_toArray, List.map_cons, List.map_nil]); first | done | rfl | (simp only [List.length_drop, List.length_take]; rfl)) ?_
    with_reducible refine (pl_SameEntry.calls k1 ((rd_T39 l0 x5_1).f0) ((rd_T39 l0 x5_1).f1) _ _ ((rd_T39 l0 x5_1).f2) ((rd_T39 l0 x5_1).f3) ((rd_T39 l0 x5_1).f4) ((rd_T39 l0 x5_1).f5) ((rd_T39 l0 x5_1).f6) ((rd_T39 l0 x5_1).f7) ((rd_T39 l0 x5_1).f8) ((rd_T39 l1 x5_1).f0) ((rd_T39 l1 x5_1).f1) _ _ ((rd_T39 l1 x5_1).f2) ((rd_T39 l1 x5_1).f3) ((rd_T39 l1 x5_1).f4) ((rd_T39 l1 x5_1).f5) ((rd_T39 l1 x5_1).f6) ((rd_T39 l1 x5_1).f7) ((rd_T39 l1 x5_1).f8) false _ ?side1 ?side2 ?side3 ?side4 A7.out).mono ?_
    (case side1 => repeat (first | exact (Kd.C_below HR224_2.out HB.out) | (with_reducible refine Kd.C_alloc ?_ _) | (with_reducible refine Kd.C_drewN ?_ _) | (with_reducible refine Kd.C_drew ?_)))
    (case side2 => exact HC224_2.out)
    (case side3 => repeat (first | exact (Kd.C_below HR225_2.out HB.out) | (with_reducible refine Kd.C_alloc ?_ _) | (with_reducible refine Kd.C_drewN ?_ _) | (with_reducible refine Kd.C_drew ?_)))
    (case side4 => exact HC225_2.out)
    rintro e w12 ⟨rfl, hb⟩
    refine ⟨_, rfl, ?_⟩
    have n0_ := qas (below_step (by repeat (first | (with_reducible first | exact HB.out | apply qbA | apply qbB | apply qbC) | exact HB.out)) hb)
    clear HB
    have HB := n0_
    clear n0_
    (try clear hb)
    (try clear hb2)
    (try clear hk)
    (try clear hi)
    refine hK.out _ _ ⟨((HB.out.cell (qbl w _ hw224_0)).trans hw224_0), ((HB.out.cell (qbl w _ hw224_1)).trans hw224_1), ((HB.out.cell (qbl w _ hw224_2)).trans hw224_2), ((HB.out.cell (qbl w _ hw224_3)).trans hw224_3), ((HB.out.cell (qbl w _ hw224_4)).trans hw224_4), ((HB.out.cell (qbl w _ hw224_5)).trans hw224_5), ((HB.out.cell (qbl w _ hw224_6)).trans hw224_6), ((HB.out.cell (qbl w _ hw224_7)).trans hw224_7), ((HB.out.cell (qbl w _ hw224_8)).trans hw224_8), ((HB.out.cell (qbl w _ hw225_0)).trans hw225_0), ((HB.out.cell (qbl w _ hw225_1)).trans hw225_1), ((HB.out.cell (qbl w _ hw225_2)).trans hw225_2), ((HB.out.cell (qbl w _ hw225_3)).trans hw225_3), ((HB.out.cell (qbl w _ hw225_4)).trans hw225_4), ((HB.out.cell (qbl w _ hw225_5)).trans hw225_5), ((HB.out.cell (qbl w _ hw225_6)).trans hw225_6), ((HB.out.cell (qbl w _ hw225_7)).trans hw225_7), ((HB.out.cell (qbl w _ hw225_8)).trans hw225_8)⟩ (fun hHeld => ?_)
    clear hK K
    refine norm_ (a' := ?_) ?_ ?_
    rotate_left
    ·show Act.put _ (some 25) _ = _
     simp only [Act.put, qsA, qsB, qsC, i64_w, i32_w, qsD, qsE]
     rfl
    refine pure_ (i := 9) (N := some 26) (v := ?_) (a' := ?_) #[qt, qt, qt, qt, qt, qt, qt, qt, qt, qt] rfl rfl (any_of HT_.out (by kernel_rfl)) (fun _ _ _ h => h) (Or.inl ⟨by rfl, ?_⟩) ?_ ?_
    rotate_left
    ·intro w'
     go_simp
     with_reducible rfl
    rotate_left
    ·simp only [Act.put, qsA, qsB, qsC, i64_w, i32_w, qsD, qsE]
     rfl
    refine done_ (done_of HT_.out (by kernel_rfl)) ?_
    try go_wp2
    go_ret
    exact ⟨by first | rfl | (simp [errW_none, errW_some] <;> rfl) | (simp [*, errW_none, errW_some] <;> rfl), by repeat (first | (with_reducible first | exact HB.out | apply qbA | apply qbB | apply qbC) | exact HB.out)⟩
   subst c8
   have H1 : (pl_SameEntries.l0 k1 l0 l1 (wrap64 (x5_1 + 1))) = some r := by rw [if_pos rfl] at H; exact H
   clear H
   have H := H1
   clear H1
   have H' := qas H
   clear H
   try go_wp2
   have n0_ := qas (qbC HB.out)
   clear HB
   have HB := n0_
   clear n0_
   have p224 : 0 ≤ (x5_1 : Int) := qde (by first | (with_reducible assumption) | assumption)
   have q224 : x5_1 < (l0.length : Int) := qde (by first | (with_reducible assumption) | assumption)
   obtain ⟨ad224, A224_2, c224_2, e224, hx224_0, hx224_1, hx224_2, hx224_3, hx224_4, hx224_5, hx224_6, hx224_7, hx224_8, hl224_2, hi224_2⟩ := at_T39 HR0.out x5_1 p224 q224
   have hw224_8 := hx224_8
   have hw224_7 := hx224_7
   have hw224_6 := hx224_6
   have hw224_5 := hx224_5
   have hw224_4 := hx224_4
   have hw224_3 := hx224_3
   have hw224_2 := hx224_2
   have hw224_1 := hx224_1
   have hw224_0 := hx224_0
   cases e224
   replace hx224_0 := (HB.out.cell (qbl w _ hx224_0)).trans hx224_0
   replace hx224_1 := (HB.out.cell (qbl w _ hx224_1)).trans hx224_1
   replace hx224_2 := (HB.out.cell (qbl w _ hx224_2)).trans hx224_2
   replace hx224_3 := (HB.out.cell (qbl w _ hx224_3)).trans hx224_3
   replace hx224_4 := (HB.out.cell (qbl w _ hx224_4)).trans hx224_4
   replace hx224_5 := (HB.out.cell (qbl w _ hx224_5)).trans hx224_5
   replace hx224_6 := (HB.out.cell (qbl w _ hx224_6)).trans hx224_6
   replace hx224_7 := (HB.out.cell (qbl w _ hx224_7)).trans hx224_7
   replace hx224_8 := (HB.out.cell (qbl w _ hx224_8)).trans hx224_8
   have HR224_2 := qas hi224_2
   have HC224_2 := qas hl224_2
   clear hi224_2 hl224_2
   replace p224 := eq_true p224
   replace q224 := eq_true q224
   have p225 : 0 ≤ (x5_1 : Int) := qde (by first | (with_reducible assumption) | assumption)
   have q225 : x5_1 < (l1.length : Int) := qde (by first | (with_reducible assumption) | assumption)
   obtain ⟨ad225, A225_2, c225_2, e225, hx225_0, hx225_1, hx225_2, hx225_3, hx225_4, hx225_5, hx225_6, hx225_7, hx225_8, hl225_2, hi225_2⟩ := at_T39 HR1.out x5_1 p225 q225
   have hw225_8 := hx225_8
   have hw225_7 := hx225_7
   have hw225_6 := hx225_6
   have hw225_5 := hx225_5
   have hw225_4 := hx225_4
   have hw225_3 := hx225_3
   have hw225_2 := hx225_2
   have hw225_1 := hx225_1
   have hw225_0 := hx225_0
   cases e225
   replace hx225_0 := (HB.out.cell (qbl w _ hx225_0)).trans hx225_0
   replace hx225_1 := (HB.out.cell (qbl w _ hx225_1)).trans hx225_1
   replace hx225_2 := (HB.out.cell (qbl w _ hx225_2)).trans hx225_2
   replace hx225_3 := (HB.out.cell (qbl w _ hx225_3)).trans hx225_3
   replace hx225_4 := (HB.out.cell (qbl w _ hx225_4)).trans hx225_4
   replace hx225_5 := (HB.out.cell (qbl w _ hx225_5)).trans hx225_5
   replace hx225_6 := (HB.out.cell (qbl w _ hx225_6)).trans hx225_6
   replace hx225_7 := (HB.out.cell (qbl w _ hx225_7)).trans hx225_7
   replace hx225_8 := (HB.out.cell (qbl w _ hx225_8)).trans hx225_8
   have HR225_2 := qas hi225_2
   have HC225_2 := qas hl225_2
   clear hi225_2 hl225_2
   replace p225 := eq_true p225
   replace q225 := eq_true q225
   refine start_ (n := 10) (S := fun w' => w'.cell? (ad224.add ((x5_1).toNat * 9)) = some (.string ((rd_T39 l0 x5_1).f0)) ∧ w'.cell? ⟨(ad224.add ((x5_1).toNat * 9)).block, (ad224.add ((x5_1).toNat * 9)).off + 1, none⟩ = some (.bool ((rd_T39 l0 x5_1).f1)) ∧ w'.cell? ⟨(ad224.add ((x5_1).toNat * 9)).block, (ad224.add ((x5_1).toNat * 9)).off + 2, none⟩ = some (.slice A224_2 ((rd_T39 l0 x5_1).f2).length c224_2) ∧ w'.cell? ⟨(ad224.add ((x5_1).toNat * 9)).block, (ad224.add ((x5_1).toNat * 9)).off + 3, none⟩ = some (.int .i64 ((rd_T39 l0 x5_1).f3)) ∧ w'.cell? ⟨(ad224.add ((x5_1).toNat * 9)).block, (ad224.add ((x5_1).toNat * 9)).off + 4, none⟩ = some (.int .i64 ((rd_T39 l0 x5_1).f4)) ∧ w'.cell? ⟨(ad224.add ((x5_1).toNat * 9)).block, (ad224.add ((x5_1).toNat * 9)).off + 5, none⟩ = some (.int .i64 ((rd_T39 l0 x5_1).f5)) ∧ w'.cell? ⟨(ad224.add ((x5_1).toNat * 9)).block, (ad224.add ((x5_1).toNat * 9)).off + 6, none⟩ = some (.string ((rd_T39 l0 x5_1).f6)) ∧ w'.cell? ⟨(ad224.add ((x5_1).toNat * 9)).block, (ad224.add ((x5_1).toNat * 9)).off + 7, none⟩ = some (.int .i64 ((rd_T39 l0 x5_1).f7)) ∧ w'.cell? ⟨(ad224.add ((x5_1).toNat * 9)).block, (ad224.add ((x5_1).toNat * 9)).off + 8, none⟩ = some (.int .i64 ((rd_T39 l0 x5_1).f8)) ∧ w'.cell? (ad225.add ((x5_1).toNat * 9)) = some (.string ((rd_T39 l1 x5_1).f0)) ∧ w'.cell? ⟨(ad225.add ((x5_1).toNat * 9)).block, (ad225.add ((x5_1).toNat * 9)).off + 1, none⟩ = some (.bool ((rd_T39 l1 x5_1).f1)) ∧ w'.cell? ⟨(ad225.add ((x5_1).toNat * 9)).block, (ad225.add ((x5_1).toNat * 9)).off + 2, none⟩ = some (.slice A225_2 ((rd_T39 l1 x5_1).f2).length c225_2) ∧ w'.cell? ⟨(ad225.add ((x5_1).toNat * 9)).block, (ad225.add ((x5_1).toNat * 9)).off + 3, none⟩ = some (.int .i64 ((rd_T39 l1 x5_1).f3)) ∧ w'.cell? ⟨(ad225.add ((x5_1).toNat * 9)).block, (ad225.add ((x5_1).toNat * 9)).off + 4, none⟩ = some (.int .i64 ((rd_T39 l1 x5_1).f4)) ∧ w'.cell? ⟨(ad225.add ((x5_1).toNat * 9)).block, (ad225.add ((x5_1).toNat * 9)).off + 5, none⟩ = some (.int .i64 ((rd_T39 l1 x5_1).f5)) ∧ w'.cell? ⟨(ad225.add ((x5_1).toNat * 9)).block, (ad225.add ((x5_1).toNat * 9)).off + 6, none⟩ = some (.string ((rd_T39 l1 x5_1).f6)) ∧ w'.cell? ⟨(ad225.add ((x5_1).toNat * 9)).block, (ad225.add ((x5_1).toNat * 9)).off + 7, none⟩ = some (.int .i64 ((rd_T39 l1 x5_1).f7)) ∧ w'.cell? ⟨(ad225.add ((x5_1).toNat * 9)).block, (ad225.add ((x5_1).toNat * 9)).off + 8, none⟩ = some (.int .i64 ((rd_T39 l1 x5_1).f8))) (ds := []) #[qf, qf, qf, qf, qf, qf, qf, qf, qf, qf] (by kernel_rfl) rfl rfl ⟨((HB.out.cell (qbl w _ hw224_0)).trans hw224_0), ((HB.out.cell (qbl w _ hw224_1)).trans hw224_1), ((HB.out.cell (qbl w _ hw224_2)).trans hw224_2), ((HB.out.cell (qbl w _ hw224_3)).trans hw224_3), ((HB.out.cell (qbl w _ hw224_4)).trans hw224_4), ((HB.out.cell (qbl w _ hw224_5)).trans hw224_5), ((HB.out.cell (qbl w _ hw224_6)).trans hw224_6), ((HB.out.cell (qbl w _ hw224_7)).trans hw224_7), ((HB.out.cell (qbl w _ hw224_8)).trans hw224_8), ((HB.out.cell (qbl w _ hw225_0)).trans hw225_0), ((HB.out.cell (qbl w _ hw225_1)).trans hw225_1), ((HB.out.cell (qbl w _ hw225_2)).trans hw225_2), ((HB.out.cell (qbl w _ hw225_3)).trans hw225_3), ((HB.out.cell (qbl w _ hw225_4)).trans hw225_4), ((HB.out.cell (qbl w _ hw225_5)).trans hw225_5), ((HB.out.cell (qbl w _ hw225_6)).trans hw225_6), ((HB.out.cell (qbl w _ hw225_7)).trans hw225_7), ((HB.out.cell (qbl w _ hw225_8)).trans hw225_8)⟩ (fun hHeld => ?_); refine with_tabW pl_SameEntries.tab6 pl_SameEntries.bits6 (fun HT_ HW_ => ?_)
   generalize wr.drew = w9 at HB HR224_2 HR225_2 hx224_0 hx224_1 hx224_2 hx224_3 hx224_4 hx224_5 hx224_6 hx224_7 hx224_8 hx225_0 hx225_1 hx225_2 hx225_3 hx225_4 hx225_5 hx225_6 hx225_7 hx225_8 hHeld ⊢
   refine pure_ (i := 0) (N := some 17) (v := ?_) (a' := ?_) #[qt, qf, qf, qf, qf, qf, qf, qf, qf, qf] rfl rfl (any_of HT_.out (by kernel_rfl)) (fun _ _ _ h => h) (Or.inl ⟨by rfl, ?_⟩) ?_ ?_
   rotate_left
   ·intro w'
    go_simp
    with_reducible rfl
   rotate_left
   ·simp only [Act.put, qsA, qsB, qsC, i64_w, i32_w, qsD, qsE]
    rfl
   refine pure_ (i := 1) (N := some 18) (v := ?_) (a' := ?_) #[qt, qt, qf, qf, qf, qf, qf, qf, qf, qf] rfl rfl (any_of HT_.out (by kernel_rfl)) (fun _ _ _ h => h) (Or.inl ⟨by rfl, ?_⟩) ?_ ?_
   rotate_left
   ·intro w'
    go_simp
    with_reducible rfl
   rotate_left
   ·simp only [Act.put, qsA, qsB, qsC, i64_w, i32_w, qsD, qsE]
    rfl
   refine pure_ (i := 2) (N := some 19) (v := ?_) (a' := ?_) #[qt, qt, qt, qf, qf, qf, qf, qf, qf, qf] rfl rfl (any_of HT_.out (by kernel_rfl)) (fun _ _ _ h => h) (Or.inl ⟨by rfl, ?_⟩) ?_ ?_
   rotate_left
   ·intro w'
    go_simp
    with_reducible rfl
   rotate_left
   ·simp only [Act.put, qsA, qsB, qsC, i64_w, i32_w, qsD, qsE]
    rfl
   refine pure_ (i := 4) (N := some 21) (v := ?_) (a' := ?_) #[qt, qt, qt, qf, qt, qf, qf, qf, qf, qf] rfl rfl (any_of HT_.out (by kernel_rfl)) (fun _ _ _ h => h) (Or.inl ⟨by rfl, ?_⟩) ?_ ?_
   rotate_left
   ·intro w'
    go_simp
    with_reducible rfl
   rotate_left
   ·simp only [Act.put, qsA, qsB, qsC, i64_w, i32_w, qsD, qsE]
    rfl
   refine pure_ (i := 5) (N := some 22) (v := ?_) (a' := ?_) #[qt, qt, qt, qf, qt, qt, qf, qf, qf, qf] rfl rfl (any_of HT_.out (by kernel_rfl)) (fun _ _ _ h => h) (Or.inl ⟨by rfl, ?_⟩) ?_ ?_
   rotate_left
   ·intro w'
    go_simp
    with_reducible rfl
   rotate_left
   ·simp only [Act.put, qsA, qsB, qsC, i64_w, i32_w, qsD, qsE]
    rfl
   refine pure_ (i := 6) (N := some 23) (v := ?_) (a' := ?_) #[qt, qt, qt, qf, qt, qt, qt, qf, qf, qf] rfl rfl (any_of HT_.out (by kernel_rfl)) (fun _ _ _ h => h) (Or.inl ⟨by rfl, ?_⟩) ?_ ?_
   rotate_left
   ·intro w'
    go_simp
    with_reducible rfl
   rotate_left
   ·simp only [Act.put, qsA, qsB, qsC, i64_w, i32_w, qsD, qsE]
    rfl
   refine take_ (i := 3) (N := some 20) (v := ?_) (a' := ?_) #[qt, qt, qt, qt, qt, qt, qt, qf, qf, qf] rfl rfl (take_ofW HT_.out HW_.out (by kernel_rfl)) (fun _ _ _ h => h) (Or.inl ⟨by rfl, ?_⟩) hHeld ?_ ?_
   rotate_left
   ·rintro w' ⟨s0, s1, s2, s3, s4, s5, s6, s7, s8, s9, s10, s11, s12, s13, s14, s15, s16, s17⟩
    go_simp
    with_reducible rfl
   rotate_left
   ·simp only [Act.put, qsA, qsB, qsC, i64_w, i32_w, qsD, qsE]
    rfl
   refine take_ (i := 7) (N := some 24) (v := ?_) (a' := ?_) #[qt, qt, qt, qt, qt, qt, qt, qt, qf, qf] rfl rfl (take_ofW HT_.out HW_.out (by kernel_rfl)) (fun _ _ _ h => h) (Or.inl ⟨by rfl, ?_⟩) hHeld ?_ ?_
   rotate_left
   ·rintro w' ⟨s0, s1, s2, s3, s4, s5, s6, s7, s8, s9, s10, s11, s12, s13, s14, s15, s16, s17⟩
    go_simp
    with_reducible rfl
   rotate_left
   ·simp only [Act.put, qsA, qsB, qsC, i64_w, i32_w, qsD, qsE]
    rfl
   refine one_ (i := 8) (N := some 25) #[qt, qt, qt, qt, qt, qt, qt, qt, qt, qf] rfl rfl (one_of HT_.out (by kernel_rfl)) (by decide) (fun K hK => ?_)
   refine goes_ Tryd.func88 (by kernel_rfl) rfl #[.agg #[.string ((rd_T39 l0 x5_1).f0), .bool ((rd_T39 l0 x5_1).f1), .slice A224_2 ((rd_T39 l0 x5_1).f2).length c224_2, .int .i64 ((rd_T39 l0 x5_1).f3), .int .i64 ((rd_T39 l0 x5_1).f4), .int .i64 ((rd_T39 l0 x5_1).f5), .string ((rd_T39 l0 x5_1).f6), .int .i64 ((rd_T39 l0 x5_1).f7), .int .i64 ((rd_T39 l0 x5_1).f8)], .agg #[.string ((rd_T39 l1 x5_1).f0), .bool ((rd_T39 l1 x5_1).f1), .slice A225_2 ((rd_T39 l1 x5_1).f2).length c225_2, .int .i64 ((rd_T39 l1 x5_1).f3), .int .i64 ((rd_T39 l1 x5_1).f4), .int .i64 ((rd_T39 l1 x5_1).f5), .string ((rd_T39 l1 x5_1).f6), .int .i64 ((rd_T39 l1 x5_1).f7), .int .i64 ((rd_T39 l1 x5_1).f8)]] (by rfl) rfl rfl (by (try simp only [List.map_toArray, List.map_cons, List.map_nil]); first | done | rfl | (simp only [List.length_drop, List.length_take]; rfl)) ?_
   with_reducible refine (pl_SameEntry.calls k1 ((rd_T39 l0 x5_1).f0) ((rd_T39 l0 x5_1).f1) _ _ ((rd_T39 l0 x5_1).f2) ((rd_T39 l0 x5_1).f3) ((rd_T39 l0 x5_1).f4) ((rd_T39 l0 x5_1).f5) ((rd_T39 l0 x5_1).f6) ((rd_T39 l0 x5_1).f7) ((rd_T39 l0 x5_1).f8) ((rd_T39 l1 x5_1).f0) ((rd_T39 l1 x5_1).f1) _ _ ((rd_T39 l1 x5_1).f2) ((rd_T39 l1 x5_1).f3) ((rd_T39 l1 x5_1).f4) ((rd_T39 l1 x5_1).f5) ((rd_T39 l1 x5_1).f6) ((rd_T39 l1 x5_1).f7) ((rd_T39 l1 x5_1).f8) true _ ?side1 ?side2 ?side3 ?side4 A7.out).mono ?_
   (case side1 => repeat (first | exact (Kd.C_below HR224_2.out HB.out) | (with_reducible refine Kd.C_alloc ?_ _) | (with_reducible refine Kd.C_drewN ?_ _) | (with_reducible refine Kd.C_drew ?_)))
   (case side2 => exact HC224_2.out)
   (case side3 => repeat (first | exact (Kd.C_below HR225_2.out HB.out) | (with_reducible refine Kd.C_alloc ?_ _) | (with_reducible refine Kd.C_drewN ?_ _) | (with_reducible refine Kd.C_drew ?_)))
   (case side4 => exact HC225_2.out)
   rintro e w10 ⟨rfl, hb⟩
   refine ⟨_, rfl, ?_⟩
   have n0_ := qas (below_step (by repeat (first | (with_reducible first | exact HB.out | apply qbA | apply qbB | apply qbC) | exact HB.out)) hb)
   clear HB
   have HB := n0_
   clear n0_
   (try clear hb)
   (try clear hb2)
   (try clear hk)
   (try clear hi)
   refine hK.out _ _ ⟨((HB.out.cell (qbl w _ hw224_0)).trans hw224_0), ((HB.out.cell (qbl w _ hw224_1)).trans hw224_1), ((HB.out.cell (qbl w _ hw224_2)).trans hw224_2), ((HB.out.cell (qbl w _ hw224_3)).trans hw224_3), ((HB.out.cell (qbl w _ hw224_4)).trans hw224_4), ((HB.out.cell (qbl w _ hw224_5)).trans hw224_5), ((HB.out.cell (qbl w _ hw224_6)).trans hw224_6), ((HB.out.cell (qbl w _ hw224_7)).trans hw224_7), ((HB.out.cell (qbl w _ hw224_8)).trans hw224_8), ((HB.out.cell (qbl w _ hw225_0)).trans hw225_0), ((HB.out.cell (qbl w _ hw225_1)).trans hw225_1), ((HB.out.cell (qbl w _ hw225_2)).trans hw225_2), ((HB.out.cell (qbl w _ hw225_3)).trans hw225_3), ((HB.out.cell (qbl w _ hw225_4)).trans hw225_4), ((HB.out.cell (qbl w _ hw225_5)).trans hw225_5), ((HB.out.cell (qbl w _ hw225_6)).trans hw225_6), ((HB.out.cell (qbl w _ hw225_7)).trans hw225_7), ((HB.out.cell (qbl w _ hw225_8)).trans hw225_8)⟩ (fun hHeld => ?_)
   clear hK K
   refine norm_ (a' := ?_) ?_ ?_
   rotate_left
   ·show Act.put _ (some 25) _ = _
    simp only [Act.put, qsA, qsB, qsC, i64_w, i32_w, qsD, qsE]
    rfl
   refine pure_ (i := 9) (N := some 26) (v := ?_) (a' := ?_) #[qt, qt, qt, qt, qt, qt, qt, qt, qt, qt] rfl rfl (any_of HT_.out (by kernel_rfl)) (fun _ _ _ h => h) (Or.inl ⟨by rfl, ?_⟩) ?_ ?_
   rotate_left
   ·intro w'
    go_simp
    with_reducible rfl
   rotate_left
   ·simp only [Act.put, qsA, qsB, qsC, i64_w, i32_w, qsD, qsE]
    rfl
   refine done_ (done_of HT_.out (by kernel_rfl)) ?_
   try go_wp2
   go_roundg k1
   case measure => have := HK1.out; omega
   case rel => exact ⟨(wrap64 (x5_1 + 1)), (by first | rfl | (simp; done) | (simp [*]; done)), H', ⟨by have := HK1.out; omega⟩, ⟨by repeat (first | (with_reducible first | exact HB.out | apply qbA | apply qbB | apply qbC) | exact HB.out)⟩⟩

/-! ### pl_SameFolder: function 24 -/
def pl_SameFolder.f (k : Nat) (l0_0 : List (S39)) (l1_0 : List (S39)) : Option (Bool) := (pl_SameEntries.f k l0_0 l1_0).bind fun t229 => (some t229)
theorem pl_SameFolder.mono : ∀ a0 a1 k, LeO (pl_SameFolder.f k a0 a1) (pl_SameFolder.f (k + 1) a0 a1) := by
 intro a0 a1 k
 unfold pl_SameFolder.f
 repeat' first
   | (with_reducible exact pl_SameEntries.mono _ _ _)
   | (with_reducible exact LeO.refl _)
   | (with_reducible exact LeO.none _)
   | (with_reducible refine LeO.ite ?_ ?_)
   | (with_reducible refine LeO.bind ?_ (fun _ => ?_))
   | exact pl_SameEntries.mono _ _ _
   | exact LeO.none _
   | refine LeO.ite ?_ ?_
   | refine LeO.bind ?_ (fun _ => ?_)
set_option maxHeartbeats 8000000 in
set_option maxRecDepth 100000 in
theorem pl_SameFolder.calls (k : Nat) (A0_0 : Option Addr) (c0_0 : Nat) (l0_0 : List (S39)) (A1_0 : Option Addr) (c1_0 : Nat) (l1_0 : List (S39)) (r : Bool) (w : World) (hr0_0 : Kd.C k39 w A0_0 l0_0.length l0_0) (hc0_0 : l0_0.length ≤ c0_0) (hr1_0 : Kd.C k39 w A1_0 l1_0.length l1_0) (hc1_0 : l1_0.length ≤ c1_0) (h : pl_SameFolder.f k l0_0 l1_0 = some r) :
  Calls Tryd.prog 24 #[.agg #[.slice A0_0 l0_0.length c0_0], .agg #[.slice A1_0 l1_0.length c1_0]] w fun e w' => e = .returned (.bool r) ∧ Below w.heap.size w w' := by
 have hu24 := Tryd.underlying24
 have HR0_0 := qas hr0_0
 have HC0_0 := qas hc0_0
 clear hr0_0 hc0_0
 have HR1_0 := qas hr1_0
 have HC1_0 := qas hc1_0
 clear hr1_0 hc1_0
 have HB := qas (Below.refl w.heap.size w)
 have H : ((pl_SameEntries.f k l0_0 l1_0).bind fun t229 => (some t229)) = some r := h
 clear h
 replace H := Option.bind_eq_some_iff.mp H
 obtain ⟨t229, A30, H⟩ := H
 replace H : (some t229) = some r := H
 have A3 := qas A30
 clear A30
 obtain rfl := Option.some.inj H
 go_enter Tryd.func24, Tryd.ntmps24
 go_wp2_with (first | ((with_reducible refine gate_dst (N := 2) rfl ?_); refine box_event ?hg (N := 2) ?hd (cs := #[.slice A0_0 l0_0.length c0_0]) (t := 24) ?hr ?_; (case hd => rfl); (case hg => rfl); (case hr => first | (go_simp; done) | (go_simp; rfl)); intro gb227 hg w4 hbox hb; have n0_ := qas (below_step (by repeat (first | (with_reducible first | exact HB.out | apply qbA | apply qbB | apply qbC) | exact HB.out)) hb); have n1_ := qas (hbox); have n2_ := qas ((by rw [hg]; exact (below_size (by repeat (first | (with_reducible first | exact HB.out | apply qbA | apply qbB | apply qbC) | exact HB.out))) : w.heap.size ≤ gb227)); have n3_ := qas ((by rw [hg]; exact (below_size (by repeat (first | (with_reducible first | exact HB.out | apply qbA | apply qbB | apply qbC) | exact HB.out))) : w.heap.size ≤ gb227)); clear HB; have HB := n0_; have BK227 := n1_; have GW227 := n2_; have GE227 := n3_; clear n0_ n1_ n2_ n3_; clear hb hbox hg) | ((with_reducible refine gate_dst (N := 3) rfl ?_); refine box_event ?hg (N := 3) ?hd (cs := #[.slice A1_0 l1_0.length c1_0]) (t := 24) ?hr ?_; (case hd => rfl); (case hg => rfl); (case hr => first | (go_simp; done) | (go_simp; rfl)); intro gb228 hg w5 hbox hb; have n0_ := qas (blk_below (g := gb227) (o := .cells #[.slice A0_0 l0_0.length c0_0] 24 (0, 0)) (by (with_reducible repeat (first | refine qkA ?_ _ | refine qkB ?_ | refine qkC ?_ _)); exact BK227.out) hb); have n1_ := qas (below_step (by repeat (first | (with_reducible first | exact HB.out | apply qbA | apply qbB | apply qbC | refine below_set ?_ GE227.out) | exact HB.out)) hb); have n2_ := qas (hbox); have n3_ := qas ((by rw [hg]; exact (below_size (by repeat (first | (with_reducible first | exact HB.out | apply qbA | apply qbB | apply qbC | refine below_set ?_ GE227.out) | exact HB.out))) : w.heap.size ≤ gb228)); have n4_ := qas ((by rw [hg]; exact (below_size (by repeat (first | (with_reducible first | exact HB.out | apply qbA | apply qbB | apply qbC | refine below_set ?_ GE227.out) | exact HB.out))) : w.heap.size ≤ gb228)); have n5_ := qas ((by rw [hg]; exact Nat.ne_of_lt (blk_lt (g := gb227) (o := .cells #[.slice A0_0 l0_0.length c0_0] 24 (0, 0)) (by (with_reducible repeat (first | refine qkA ?_ _ | refine qkB ?_ | refine qkC ?_ _)); exact BK227.out)) : gb227 ≠ gb228)); have n6_ := qas ((by rw [hg]; exact Nat.ne_of_gt (blk_lt (g := gb227) (o := .cells #[.slice A0_0 l0_0.length c0_0] 24 (0, 0)) (by (with_reducible repeat (first | refine qkA ?_ _ | refine qkB ?_ | refine qkC ?_ _)); exact BK227.out)) : gb228 ≠ gb227)); clear BK227; clear HB; have BK227 := n0_; have HB := n1_; have BK228 := n2_; have GW228 := n3_; have GE228 := n4_; have NB227_228 := n5_; have NB228_227 := n6_; clear n0_ n1_ n2_ n3_ n4_ n5_ n6_; clear hb hbox hg; have hnb6 := NB227_228.out; have hnc6 := NB228_227.out; have hcz7_0 : w5.cell? ⟨gb227, 0, none⟩ = some (.slice A0_0 l0_0.length c0_0) := (blk_cell BK227.out 0).trans rfl; have hfz7_0 := blk_frozen BK227.out 0; have hcz8_0 : w5.cell? ⟨gb228, 0, none⟩ = some (.slice A1_0 l1_0.length c1_0) := (blk_cell BK228.out 0).trans rfl; have hfz8_0 := blk_frozen BK228.out 0) | ((with_reducible refine gate_callee (f := 59) rfl ?_); refine goesL_ (some 9) rfl rfl Tryd.func59 (by kernel_rfl) rfl #[.slice A0_0 l0_0.length c0_0, .slice A1_0 l1_0.length c1_0] rfl (by (try simp only [List.map_toArray, List.map_cons, List.map_nil]); first | done | rfl | (simp only [List.length_drop, List.length_take]; rfl)) ?_; (with_reducible refine (pl_SameEntries.calls k _ _ l0_0 _ _ l1_0 t229 _ ?side1 ?side2 ?side3 ?side4 A3.out).mono ?_); (case side1 => repeat (first | exact (Kd.C_below HR0_0.out HB.out) | (with_reducible refine Kd.C_alloc ?_ _) | (with_reducible refine Kd.C_drewN ?_ _) | (with_reducible refine Kd.C_drew ?_))); (case side2 => exact HC0_0.out); (case side3 => repeat (first | exact (Kd.C_below HR1_0.out HB.out) | (with_reducible refine Kd.C_alloc ?_ _) | (with_reducible refine Kd.C_drewN ?_ _) | (with_reducible refine Kd.C_drew ?_))); (case side4 => exact HC1_0.out); rintro e w9 ⟨rfl, hb⟩; refine ⟨_, rfl, ?_⟩; have n0_ := qas (blk_below (g := gb227) (o := .cells #[.slice A0_0 l0_0.length c0_0] 24 (0, 0)) (by (with_reducible repeat (first | refine qkA ?_ _ | refine qkB ?_ | refine qkC ?_ _)); exact BK227.out) hb); have n1_ := qas (blk_below (g := gb228) (o := .cells #[.slice A1_0 l1_0.length c1_0] 24 (0, 0)) (by (with_reducible repeat (first | refine qkA ?_ _ | refine qkB ?_ | refine qkC ?_ _)); exact BK228.out) hb); have n2_ := qas (below_step (by repeat (first | (with_reducible first | exact HB.out | apply qbA | apply qbB | apply qbC | refine below_set ?_ GE227.out | refine below_set ?_ GE228.out) | exact HB.out)) hb); clear BK227; clear BK228; clear HB; have BK227 := n0_; have BK228 := n1_; have HB := n2_; clear n0_ n1_ n2_; (try clear hb); (try clear hb2); (try clear hk); (try clear hi)))
 go_ret
 exact ⟨by first | rfl | (simp [errW_none, errW_some] <;> rfl) | (simp [*, errW_none, errW_some] <;> rfl), by repeat (first | (with_reducible first | exact HB.out | apply qbA | apply qbB | apply qbC | refine below_set ?_ GE227.out | refine below_set ?_ GE228.out) | exact HB.out)⟩

attribute [local go_sem] max2_int min2_int max_two min_two max_three min_three max_four min_four   -- for this text's walks alone
set_option linter.unusedVariables false
set_option linter.unusedSimpArgs false

/-! ### ps_turn: function 89 -/
mutual
def ps_turn.l0 : Nat → Int → ByteArray → Int → Option (Int)
 | 0, _, _, _ => none
 | k + 1, x0, x1, x5 => if x5 < (x1.size : Int) then (if 0 ≤ x5 then (ps_turn.l1 k (Go.bits .xor .u32 x0 ((bt x1 x5) % 4294967296)) x1 x5 0) else (none)) else (some x0)
def ps_turn.l1 : Nat → Int → ByteArray → Int → Int → Option (Int)
 | 0, _, _, _, _ => none
 | k + 1, x0, x1, x5, x6 => if x6 < 8 then (if (Go.bits .and .u32 x0 1) = 1 then (ps_turn.l1 k (Go.bits .xor .u32 (x0 / 2) 3988292384) x1 x5 (wrap64 (x6 + 1))) else (ps_turn.l1 k (x0 / 2) x1 x5 (wrap64 (x6 + 1)))) else (ps_turn.l0 k x0 x1 (wrap64 (x5 + 1)))
end
def ps_turn.f (k : Nat) (a0 : Int) (a1 : ByteArray) : Option (Int) := ps_turn.l0 k a0 a1 0
theorem ps_turn.mono_l : ∀ k, (∀ y0 y1 y2, LeO (ps_turn.l0 k y0 y1 y2) (ps_turn.l0 (k + 1) y0 y1 y2)) ∧ (∀ y0 y1 y2 y3, LeO (ps_turn.l1 k y0 y1 y2 y3) (ps_turn.l1 (k + 1) y0 y1 y2 y3))
 | 0 => ⟨fun _ _ _ r h => by simp [ps_turn.l0] at h, fun _ _ _ _ r h => by simp [ps_turn.l1] at h⟩
 | k + 1 => by
  obtain ⟨ih0, ih1⟩ := ps_turn.mono_l k
  refine ⟨?_, ?_⟩
  ·intro y0 y1 y2
   unfold ps_turn.l0
   repeat' first
   | (with_reducible exact ih0 _ _ _)
   | (with_reducible exact ih1 _ _ _ _)
   | (with_reducible exact LeO.refl _)
   | (with_reducible exact LeO.none _)
   | (with_reducible refine LeO.ite ?_ ?_)
   | (with_reducible refine LeO.bind ?_ (fun _ => ?_))
   | exact ih0 _ _ _
   | exact ih1 _ _ _ _
   | exact LeO.none _
   | refine LeO.ite ?_ ?_
   | refine LeO.bind ?_ (fun _ => ?_)
  ·intro y0 y1 y2 y3
   unfold ps_turn.l1
   repeat' first
   | (with_reducible exact ih0 _ _ _)
   | (with_reducible exact ih1 _ _ _ _)
   | (with_reducible exact LeO.refl _)
   | (with_reducible exact LeO.none _)
   | (with_reducible refine LeO.ite ?_ ?_)
   | (with_reducible refine LeO.bind ?_ (fun _ => ?_))
   | exact ih0 _ _ _
   | exact ih1 _ _ _ _
   | exact LeO.none _
   | refine LeO.ite ?_ ?_
   | refine LeO.bind ?_ (fun _ => ?_)
theorem ps_turn.mono : ∀ a0 a1 k, LeO (ps_turn.f k a0 a1) (ps_turn.f (k + 1) a0 a1) := by
 intro a0 a1 k
 obtain ⟨ih0, ih1⟩ := ps_turn.mono_l k
 unfold ps_turn.f
 repeat' first
   | (with_reducible exact ih0 _ _ _)
   | (with_reducible exact ih1 _ _ _ _)
   | (with_reducible exact LeO.refl _)
   | (with_reducible exact LeO.none _)
   | (with_reducible refine LeO.ite ?_ ?_)
   | (with_reducible refine LeO.bind ?_ (fun _ => ?_))
   | exact ih0 _ _ _
   | exact ih1 _ _ _ _
   | exact LeO.none _
   | refine LeO.ite ?_ ?_
   | refine LeO.bind ?_ (fun _ => ?_)
set_option maxHeartbeats 8000000 in
set_option maxRecDepth 100000 in
theorem ps_turn.calls (k : Nat) (a0 : Int) (a1 : ByteArray) (r : Int) (w : World) (h : ps_turn.f k a0 a1 = some r) :
  Calls Tryd.prog 89 #[.int .u32 a0, .string a1] w fun e w' => e = .returned (.int .u32 r) ∧ Drawn0 w w' := by
 have H : (ps_turn.l0 k a0 a1 0) = some r := h
 clear h
 have H' := qas H
 clear H
 go_enter Tryd.func89, Tryd.ntmps89
 go_wp2
 go_loopg [0, 5] k (fun kq v0 v5 w' => ∃ (x0_1 : Int) (x5_1 : Int), v0 = .int .u32 x0_1 ∧ v5 = .int .i64 x5_1 ∧ Aside0 (ps_turn.l0 kq x0_1 a1 x5_1 = some r) ∧ Aside0 (kq ≤ k) ∧ Drawn0 w w')
 case atStart => exact ⟨(a0), (0), (by first | rfl | (simp; done) | (simp [*]; done)), (by first | rfl | (simp; done) | (simp [*]; done)), H', ⟨Nat.le_refl _⟩, by repeat (first | exact Drawn0.refl _ | apply Drawn0.step)⟩
 case round =>
  clear H'
  try clear p2
  obtain ⟨x0_1, x5_1, rfl, rfl, HA, HK1, ⟨m1, rfl⟩⟩ := hrel
  cases gk with
  | zero => exact absurd HA.out (by simp [ps_turn.l0])
  | succ k1 =>
   have H := HA.out
   clear HA
   simp only [ps_turn.l0] at H
   by_cases c3 : x5_1 < (a1.size : Int)
   rotate_left
   ·rw [if_neg c3] at H
    have c3b0 : decide (x5_1 < (a1.size : Int)) = false := decide_eq_false c3
    clear c3
    obtain rfl := Option.some.inj H
    go_wp2
    go_ret
    exact ⟨by first | rfl | (simp; done) | (simp [*]; done), by repeat (first | exact Drawn0.refl _ | apply Drawn0.step)⟩
   rw [if_pos c3] at H
   have c3b0 : decide (x5_1 < (a1.size : Int)) = true := decide_eq_true c3
   clear c3
   by_cases c4 : 0 ≤ x5_1
   rotate_left
   ·rw [if_neg c4] at H
    exact absurd H (by simp)
   rw [if_pos c4] at H
   have c4b0 : decide (0 ≤ x5_1) = true := decide_eq_true c4
   clear c4
   have H' := qas H
   clear H
   have p5 : 0 ≤ (x5_1 : Int) := qde (by first | (with_reducible assumption) | assumption)
   have q5 : x5_1 < (a1.size : Int) := qde (by first | (with_reducible assumption) | assumption)
   have hx5 := bt_at a1 x5_1
   replace p5 := eq_true p5
   replace q5 := eq_true q5
   go_wp2
   go_loopg [0, 6] k1 (fun kq v0 v6 w' => ∃ (x0_2 : Int) (x6_2 : Int), v0 = .int .u32 x0_2 ∧ v6 = .int .i64 x6_2 ∧ Aside0 (ps_turn.l1 kq x0_2 a1 x5_1 x6_2 = some r) ∧ Aside0 (kq ≤ k1) ∧ Drawn0 w w')
   case atStart => exact ⟨(Go.bits .xor .u32 x0_1 ((bt a1 x5_1) % 4294967296)), (0), (by first | rfl | (simp; done) | (simp [*]; done)), (by first | rfl | (simp; done) | (simp [*]; done)), H', ⟨Nat.le_refl _⟩, by repeat (first | exact Drawn0.refl _ | apply Drawn0.step)⟩
   case round =>
    clear H'
    try clear p2
    try clear c3
    try clear c3b0
    try clear c4
    try clear c4b0
    try clear p5
    try clear q5
    try clear hx5
    try clear p2
    try clear p5
    try clear q5
    obtain ⟨x0_2, x6_2, rfl, rfl, HA, HK2, ⟨m2, rfl⟩⟩ := hrel
    cases gk with
    | zero => exact absurd HA.out (by simp [ps_turn.l1])
    | succ k2 =>
     have H := HA.out
     clear HA
     simp only [ps_turn.l1] at H
     by_cases c6 : x6_2 < 8
     rotate_left
     ·rw [if_neg c6] at H
      have c6b0 : decide (x6_2 < 8) = false := decide_eq_false c6
      clear c6
      have H' := qas H
      clear H
      go_wp2
      go_roundg k2
      case measure => have := HK1.out; have := HK2.out; omega
      case rel => exact ⟨(x0_2), (wrap64 (x5_1 + 1)), (by first | rfl | (simp; done) | (simp [*]; done)), (by first | rfl | (simp; done) | (simp [*]; done)), H', ⟨by have := HK1.out; have := HK2.out; omega⟩, by repeat (first | exact Drawn0.refl _ | apply Drawn0.step)⟩
     rw [if_pos c6] at H
     have c6b0 : decide (x6_2 < 8) = true := decide_eq_true c6
     clear c6
     by_cases c7 : (Go.bits .and .u32 x0_2 1) = 1
     rotate_left
     ·rw [if_neg c7] at H
      have c7b0 : ((Go.bits .and .u32 x0_2 1) == 1) = false := beq_eq_false_iff_ne.mpr c7
      have c7b1 : ((Go.bits .and .u32 x0_2 1) != 1) = true := bne_iff_ne.mpr c7
      have H' := qas H
      clear H
      go_wp2
      go_roundg k2
      case measure => have := HK1.out; have := HK2.out; omega
      case rel => exact ⟨(x0_2 / 2), (wrap64 (x6_2 + 1)), (by first | rfl | (simp; done) | (simp [*]; done)), (by first | rfl | (simp; done) | (simp [*]; done)), H', ⟨by have := HK1.out; have := HK2.out; omega⟩, by repeat (first | exact Drawn0.refl _ | apply Drawn0.step)⟩
     rw [if_pos c7] at H
     have c7b0 : ((Go.bits .and .u32 x0_2 1) == 1) = true := beq_iff_eq.mpr c7
     have c7b1 : ((Go.bits .and .u32 x0_2 1) != 1) = false := bne_eq_false_iff_eq.mpr c7
     clear c7
     have H' := qas H
     clear H
     go_wp2
     go_roundg k2
     case measure => have := HK1.out; have := HK2.out; omega
     case rel => exact ⟨(Go.bits .xor .u32 (x0_2 / 2) 3988292384), (wrap64 (x6_2 + 1)), (by first | rfl | (simp; done) | (simp [*]; done)), (by first | rfl | (simp; done) | (simp [*]; done)), H', ⟨by have := HK1.out; have := HK2.out; omega⟩, by repeat (first | exact Drawn0.refl _ | apply Drawn0.step)⟩

/-! ### ps_Crc: function 60 -/
def ps_Crc.f (k : Nat) (a0 : ByteArray) : Option (Int) := (ps_turn.f k 4294967295 a0).bind fun t230 => (some (wrap64 (Go.bits .xor .u32 4294967295 t230)))
theorem ps_Crc.mono : ∀ a0 k, LeO (ps_Crc.f k a0) (ps_Crc.f (k + 1) a0) := by
 intro a0 k
 unfold ps_Crc.f
 repeat' first
   | (with_reducible exact ps_turn.mono _ _ _)
   | (with_reducible exact LeO.refl _)
   | (with_reducible exact LeO.none _)
   | (with_reducible refine LeO.ite ?_ ?_)
   | (with_reducible refine LeO.bind ?_ (fun _ => ?_))
   | exact ps_turn.mono _ _ _
   | exact LeO.none _
   | refine LeO.ite ?_ ?_
   | refine LeO.bind ?_ (fun _ => ?_)
set_option maxHeartbeats 8000000 in
set_option maxRecDepth 100000 in
theorem ps_Crc.calls (k : Nat) (a0 : ByteArray) (r : Int) (w : World) (h : ps_Crc.f k a0 = some r) :
  Calls Tryd.prog 60 #[.string a0] w fun e w' => e = .returned (.int .i64 r) ∧ Drawn0 w w' := by
 have H : ((ps_turn.f k 4294967295 a0).bind fun t230 => (some (wrap64 (Go.bits .xor .u32 4294967295 t230)))) = some r := h
 clear h
 replace H := Option.bind_eq_some_iff.mp H
 obtain ⟨t230, A20, H⟩ := H
 replace H : (some (wrap64 (Go.bits .xor .u32 4294967295 t230))) = some r := H
 have A2 := qas A20
 clear A20
 obtain rfl := Option.some.inj H
 go_enter Tryd.func60, Tryd.ntmps60
 go_wp2_with (first | ((with_reducible refine gate_callee (f := 89) rfl ?_); refine goesL_ (some 4) rfl rfl Tryd.func89 (by kernel_rfl) rfl #[.int .u32 4294967295, .string a0] rfl (by (try simp only [List.map_toArray, List.map_cons, List.map_nil]); first | done | rfl | (simp only [List.length_drop, List.length_take]; rfl)) ?_; (with_reducible refine (ps_turn.calls k 4294967295 a0 t230 _ A2.out).mono ?_); rintro e w' ⟨rfl, ⟨nd, rfl⟩⟩; refine ⟨_, rfl, ?_⟩))
 go_ret
 exact ⟨by first | rfl | (simp; done) | (simp [*]; done), by repeat (first | exact Drawn0.refl _ | apply Drawn0.step)⟩

/-! ### pm_small: function 27 -/
def pm_small.f (k : Nat) (a0 : ByteArray) (a1 : Int) (a2 : Int) (a3 : ByteArray) : Option (ByteArray × Bool × List Int × Int × Int × Int × ByteArray × Int × Int) := if 4 ≤ 35184372088832 then ((some (List.replicate 4 0 : List Int)).bind fun y232 => (if 0 ≤ a1 then (if a1 < (y232.length : Int) then ((ps_Crc.f k a3).bind fun t236 => (some (a0, false, (y232.set (a1 : Int).toNat a2), a2, a1, 0, a3, (a3.size : Int), t236))) else (none)) else (none))) else (none)
theorem pm_small.mono : ∀ a0 a1 a2 a3 k, LeO (pm_small.f k a0 a1 a2 a3) (pm_small.f (k + 1) a0 a1 a2 a3) := by
 intro a0 a1 a2 a3 k
 unfold pm_small.f
 repeat' first
   | (with_reducible exact ps_Crc.mono _ _)
   | (with_reducible exact LeO.refl _)
   | (with_reducible exact LeO.none _)
   | (with_reducible refine LeO.ite ?_ ?_)
   | (with_reducible refine LeO.bind ?_ (fun _ => ?_))
   | exact ps_Crc.mono _ _
   | exact LeO.none _
   | refine LeO.ite ?_ ?_
   | refine LeO.bind ?_ (fun _ => ?_)
set_option maxHeartbeats 8000000 in
set_option maxRecDepth 100000 in
theorem pm_small.calls (k : Nat) (a0 : ByteArray) (a1 : Int) (a2 : Int) (a3 : ByteArray) (r1 : ByteArray) (r2 : Bool) (r3 : List Int) (r4 : Int) (r5 : Int) (r6 : Int) (r7 : ByteArray) (r8 : Int) (r9 : Int) (w : World) (h : pm_small.f k a0 a1 a2 a3 = some (r1, r2, r3, r4, r5, r6, r7, r8, r9)) :
  Calls Tryd.prog 27 #[.string a0, .int .i64 a1, .int .i64 a2, .string a3] w fun e w' => ∃ v2_ : Value, e = .returned (.agg #[.string r1, .bool r2, v2_, .int .i64 r4, .int .i64 r5, .int .i64 r6, .string r7, .int .i64 r8, .int .i64 r9]) ∧ Kd.R (Kd.int .i64) 3 w' w.heap.size (fun _ => True) v2_ r3 ∧ Below w.heap.size w w' := by
 have hu39 := Tryd.underlying39
 have HB := qas (Below.refl w.heap.size w)
 have H : (if 4 ≤ 35184372088832 then ((some (List.replicate 4 0 : List Int)).bind fun y232 => (if 0 ≤ a1 then (if a1 < (y232.length : Int) then ((ps_Crc.f k a3).bind fun t236 => (some (a0, false, (y232.set (a1 : Int).toNat a2), a2, a1, 0, a3, (a3.size : Int), t236))) else (none)) else (none))) else (none)) = some (r1, r2, r3, r4, r5, r6, r7, r8, r9) := h
 clear h
 by_cases c5 : 4 ≤ 35184372088832
 rotate_left
 ·rw [if_neg c5] at H
  exact absurd H (by simp)
 rw [if_pos c5] at H
 have c5b0 := eq_true c5
 have c5b1 : decide (4 ≤ 35184372088832) = true := decide_eq_true c5
 clear c5
 obtain ⟨y232, hy232⟩ : ∃ y_ : List Int, y_ = (List.replicate 4 0) := ⟨_, rfl⟩
 replace H : (if 0 ≤ a1 then (if a1 < (y232.length : Int) then ((ps_Crc.f k a3).bind fun t236 => (some (a0, false, (y232.set (a1 : Int).toNat a2), a2, a1, 0, a3, (a3.size : Int), t236))) else (none)) else (none)) = some (r1, r2, r3, r4, r5, r6, r7, r8, r9) := by first | (rw [hy232]; with_reducible exact H) | (have H2_ := (Option.bind_some _ _).symm.trans H; rw [hy232]; with_reducible exact H2_) | (have H2_ := (Option.bind_some _ _).symm.trans H; with_reducible exact H2_) | with_reducible exact H | (rw [hy232]; exact H) | exact H
 have Ny232 := qas hy232
 clear hy232
 by_cases c6 : 0 ≤ a1
 rotate_left
 ·rw [if_neg c6] at H
  exact absurd H (by simp)
 rw [if_pos c6] at H
 have c6b0 : decide (0 ≤ a1) = true := decide_eq_true c6
 clear c6
 by_cases c7 : a1 < (y232.length : Int)
 rotate_left
 ·rw [if_neg c7] at H
  exact absurd H (by simp)
 rw [if_pos c7] at H
 have c7b0 : decide (a1 < (y232.length : Int)) = true := decide_eq_true c7
 clear c7
 obtain ⟨y235, hy235⟩ : ∃ y_ : List Int, y_ = (y232.set (a1 : Int).toNat a2) := ⟨_, rfl⟩
 replace H : ((ps_Crc.f k a3).bind fun t236 => (some (a0, false, y235, a2, a1, 0, a3, (a3.size : Int), t236))) = some (r1, r2, r3, r4, r5, r6, r7, r8, r9) := by first | (rw [hy235]; with_reducible exact H) | (have H2_ := (Option.bind_some _ _).symm.trans H; rw [hy235]; with_reducible exact H2_) | (have H2_ := (Option.bind_some _ _).symm.trans H; with_reducible exact H2_) | with_reducible exact H | (rw [hy235]; exact H) | exact H
 have Ny235 := qas hy235
 clear hy235
 replace H := Option.bind_eq_some_iff.mp H
 obtain ⟨t236, A90, H⟩ := H
 replace H : (some (a0, false, y235, a2, a1, 0, a3, (a3.size : Int), t236)) = some (r1, r2, r3, r4, r5, r6, r7, r8, r9) := H
 have A9 := qas A90
 clear A90
 simp only [Option.some.injEq, Prod.mk.injEq] at H
 obtain ⟨rfl, rfl, rfl, rfl, rfl, rfl, rfl, rfl, rfl⟩ := H
 go_enter Tryd.func27, Tryd.ntmps27
 go_wp2_with (first | ((with_reducible refine gate_dst (N := 8) rfl ?_); refine box_event ?hg (N := 8) ?hd (cs := #[.string (⟨#[]⟩ : ByteArray), .bool false, .slice none 0 0, .int .i64 0, .int .i64 0, .int .i64 0, .string (⟨#[]⟩ : ByteArray), .int .i64 0, .int .i64 0]) (t := 39) ?hr ?_; (case hd => rfl); (case hg => rfl); (case hr => first | (go_simp; done) | (go_simp; rfl)); intro gb231 hg w10 hbox hb; have n0_ := qas (below_step (by repeat (first | (with_reducible first | exact HB.out | apply qbA | apply qbB | apply qbC) | exact HB.out)) hb); have n1_ := qas (hbox); have n2_ := qas ((by rw [hg]; exact (below_size (by repeat (first | (with_reducible first | exact HB.out | apply qbA | apply qbB | apply qbC) | exact HB.out))) : w.heap.size ≤ gb231)); have n3_ := qas ((by rw [hg]; exact (below_size (by repeat (first | (with_reducible first | exact HB.out | apply qbA | apply qbB | apply qbC) | exact HB.out))) : w.heap.size ≤ gb231)); clear HB; have HB := n0_; have BK231 := n1_; have GW231 := n2_; have GE231 := n3_; clear n0_ n1_ n2_ n3_; clear hb hbox hg) | ((with_reducible refine gate_dst (N := 10) rfl ?_); refine Kd.R_make (Kd.int .i64) _ 3 rfl (N := 10) rfl 37 _ _ rfl 4 rfl rfl Tryd.underlying37 (.int .i64 0) 8 info3 rfl (by decide) (by omega) 0 (ok := fun _ => True) (okp := fun _ => True) rfl (fun _ hk => hk) trivial (by omega) (by omega) (Below.refl _ _) (Nat.le_refl _) ?_; intro v233 w11 ho12 hb hg_ hnew_; clear hg_ hnew_; (first | rw [← Ny232.out] at ho12 | (simp only [Int.reduceToNat] at ho12; rw [← Ny232.out] at ho12)); have n0_ := qas (Kd.R_lower ho12 (below_size (by repeat (first | (with_reducible first | exact HB.out | apply qbA | apply qbB | apply qbC | refine below_set ?_ GE231.out) | exact HB.out)))); have n1_ := qas (blk_below (g := gb231) (o := .cells #[.string (⟨#[]⟩ : ByteArray), .bool false, .slice none 0 0, .int .i64 0, .int .i64 0, .int .i64 0, .string (⟨#[]⟩ : ByteArray), .int .i64 0, .int .i64 0] 39 (0, 0)) (by (with_reducible repeat (first | refine qkA ?_ _ | refine qkB ?_ | refine qkC ?_ _)); exact BK231.out) hb); have n2_ := qas (below_step (by repeat (first | (with_reducible first | exact HB.out | apply qbA | apply qbB | apply qbC | refine below_set ?_ GE231.out) | exact HB.out)) hb); clear BK231; clear HB; have HO234 := n0_; have BK231 := n1_; have HB := n2_; clear n0_ n1_ n2_; clear hb ho12; have p8 : 0 ≤ (a1 : Int) := qde (by first | (with_reducible assumption) | assumption); have q8 : (a1 : Int) < ((y232.length : Int) : Int) := qde (by first | (with_reducible assumption) | assumption); obtain ⟨go8, co8, eo8, gb8, gl8, cl8, HG8⟩ := Kd.R_form HO234.out (by omega); (first | cases eo8 | (injection eo8 with ea_ en_ ec_; (first | subst ea_ | (injection ea_ with ea_; subst ea_)); subst ec_; clear en_)); have GB8 := qas gb8; have GG8 := qas HG8; clear gb8 gl8 HG8; obtain ⟨hx8_0, hf8_0⟩ := Kd.R_celln 0 HO234.out (a1 : Int) p8 q8; replace p8 := eq_true p8; replace q8 := eq_true q8; obtain ⟨hy13_, hz13_⟩ := Kd.R_celln 0 HO234.out (a1 : Int) (qde (by first | (with_reducible assumption) | assumption)) (qde (by first | (with_reducible assumption) | assumption)); have HP13 := Kd.R_putg HO234.out (a1 : Int) a2) | ((with_reducible refine gate_store (t := 3) (p := 14) rfl ?_); refine store_event (t := 3) (p := 14) (v := ?vo_w14) (w1 := (w11.setCell ⟨go8, (a1 : Int).toNat, none⟩ (.int .i64 a2))) ?hg ?ho ?hn ?hr ?_; (case ho => rfl); (case hg => rfl); (case hn => rfl); (case hr => first | (go_simp; done) | (go_simp; rfl)); intro w14 hw; have hg : w11.grownBy w14 (some go8) := (by rw [hw]; exact HP13.2); have hp_ : Kd.R (Kd.int .i64) 3 w14 w.heap.size (fun _ => True) (.slice (some ⟨go8, 0, none⟩) y232.length co8) y235 := (by rw [hw, Ny235.out]; exact HP13.1); clear HP13; have n0_ := qas (blk_grown (g := gb231) (o := .cells #[.string (⟨#[]⟩ : ByteArray), .bool false, .slice none 0 0, .int .i64 0, .int .i64 0, .int .i64 0, .string (⟨#[]⟩ : ByteArray), .int .i64 0, .int .i64 0] 39 (0, 0)) (by (with_reducible repeat (first | refine qkA ?_ _ | refine qkB ?_ | refine qkC ?_ _)); exact BK231.out) hg (Kd.R_ne HO234.out BK231.out (by decide))); have n1_ := qas (hp_); have n2_ := qas ((by rw [hw]; exact below_set (HB.out) GB8.out : Below w.heap.size w w14)); clear BK231; clear HO234; clear HB; have BK231 := n0_; have HO234 := n1_; have HB := n2_; clear n0_ n1_ n2_; clear hg hw hp_) | ((with_reducible refine gate_callee (f := 60) rfl ?_); refine goesL_ (some 23) rfl rfl Tryd.func60 (by kernel_rfl) rfl #[.string a3] rfl (by (try simp only [List.map_toArray, List.map_cons, List.map_nil]); first | done | rfl | (simp only [List.length_drop, List.length_take]; rfl)) ?_; (with_reducible refine (ps_Crc.calls k a3 t236 _ A9.out).mono ?_); rintro e w' ⟨rfl, ⟨nd, rfl⟩⟩; refine ⟨_, rfl, ?_⟩; (try (rw [drewN_self w14]; generalize hq_ : World.drewN w14 _ = w14; have n0_ : Aside0 (Kd.R (Kd.int .i64) 3 w14 w.heap.size (fun _ => True) (.slice (some ⟨go8, 0, none⟩) y232.length co8) y235) := ⟨by rw [← hq_]; exact (by (with_reducible repeat (first | apply Kd.R_alloc | apply Kd.R_drewN | apply Kd.R_drew)); exact HO234.out)⟩; have n1_ : Aside0 (w14.heap[gb231]? = some (.cells #[.string (⟨#[]⟩ : ByteArray), .bool false, .slice none 0 0, .int .i64 0, .int .i64 0, .int .i64 0, .string (⟨#[]⟩ : ByteArray), .int .i64 0, .int .i64 0] 39 (0, 0))) := ⟨by rw [← hq_]; exact (by (with_reducible repeat (first | refine qkA ?_ _ | refine qkB ?_ | refine qkC ?_ _)); exact BK231.out)⟩; have n2_ : Aside0 (Below w.heap.size w w14) := ⟨by rw [← hq_]; exact (by repeat (first | (with_reducible first | exact HB.out | apply qbA | apply qbB | apply qbC | refine below_set ?_ GE231.out) | exact HB.out))⟩; clear HO234 BK231 HB hq_; have HO234 := n0_; have BK231 := n1_; have HB := n2_; clear n0_ n1_ n2_)); have hcz15_0 : w14.cell? ⟨gb231, 0, none⟩ = some (.string (⟨#[]⟩ : ByteArray)) := (blk_cell BK231.out 0).trans rfl; have hcz15_1 : w14.cell? ⟨gb231, 1, none⟩ = some (.bool false) := (blk_cell BK231.out 1).trans rfl; have hcz15_2 : w14.cell? ⟨gb231, 2, none⟩ = some (.slice none 0 0) := (blk_cell BK231.out 2).trans rfl; have hcz15_3 : w14.cell? ⟨gb231, 3, none⟩ = some (.int .i64 0) := (blk_cell BK231.out 3).trans rfl; have hcz15_4 : w14.cell? ⟨gb231, 4, none⟩ = some (.int .i64 0) := (blk_cell BK231.out 4).trans rfl; have hcz15_5 : w14.cell? ⟨gb231, 5, none⟩ = some (.int .i64 0) := (blk_cell BK231.out 5).trans rfl; have hcz15_6 : w14.cell? ⟨gb231, 6, none⟩ = some (.string (⟨#[]⟩ : ByteArray)) := (blk_cell BK231.out 6).trans rfl; have hcz15_7 : w14.cell? ⟨gb231, 7, none⟩ = some (.int .i64 0) := (blk_cell BK231.out 7).trans rfl; have hcz15_8 : w14.cell? ⟨gb231, 8, none⟩ = some (.int .i64 0) := (blk_cell BK231.out 8).trans rfl; have hfz15_0 := blk_frozen BK231.out 0; have hfz15_1 := blk_frozen BK231.out 1; have hfz15_2 := blk_frozen BK231.out 2; have hfz15_3 := blk_frozen BK231.out 3; have hfz15_4 := blk_frozen BK231.out 4; have hfz15_5 := blk_frozen BK231.out 5; have hfz15_6 := blk_frozen BK231.out 6; have hfz15_7 := blk_frozen BK231.out 7; have hfz15_8 := blk_frozen BK231.out 8))
 refine bodyPost_ret (results_cell_row rfl _ _ gb231 39 #[.string a0, .bool false, .slice (some ⟨go8, 0, none⟩) y232.length co8, .int .i64 a2, .int .i64 a1, .int .i64 0, .string a3, .int .i64 (a3.size : Int), .int .i64 t236] (0, 0) _ rfl (by (with_reducible repeat (first | refine qkA ?_ _ | refine qkB ?_ | refine qkC ?_ _)); refine blk_put (cs := #[.string a0, .bool false, .slice (some ⟨go8, 0, none⟩) y232.length co8, .int .i64 a2, .int .i64 a1, .int .i64 0, .string a3, .int .i64 (a3.size : Int), .int .i64 0]) ?_ 8 _ rfl; (with_reducible repeat (first | refine qkA ?_ _ | refine qkB ?_ | refine qkC ?_ _)); refine blk_put (cs := #[.string a0, .bool false, .slice (some ⟨go8, 0, none⟩) y232.length co8, .int .i64 a2, .int .i64 a1, .int .i64 0, .string a3, .int .i64 0, .int .i64 0]) ?_ 7 _ rfl; (with_reducible repeat (first | refine qkA ?_ _ | refine qkB ?_ | refine qkC ?_ _)); refine blk_put (cs := #[.string a0, .bool false, .slice (some ⟨go8, 0, none⟩) y232.length co8, .int .i64 a2, .int .i64 a1, .int .i64 0, .string (⟨#[]⟩ : ByteArray), .int .i64 0, .int .i64 0]) ?_ 6 _ rfl; (with_reducible repeat (first | refine qkA ?_ _ | refine qkB ?_ | refine qkC ?_ _)); refine blk_put (cs := #[.string a0, .bool false, .slice (some ⟨go8, 0, none⟩) y232.length co8, .int .i64 a2, .int .i64 a1, .int .i64 0, .string (⟨#[]⟩ : ByteArray), .int .i64 0, .int .i64 0]) ?_ 5 _ rfl; (with_reducible repeat (first | refine qkA ?_ _ | refine qkB ?_ | refine qkC ?_ _)); refine blk_put (cs := #[.string a0, .bool false, .slice (some ⟨go8, 0, none⟩) y232.length co8, .int .i64 a2, .int .i64 0, .int .i64 0, .string (⟨#[]⟩ : ByteArray), .int .i64 0, .int .i64 0]) ?_ 4 _ rfl; (with_reducible repeat (first | refine qkA ?_ _ | refine qkB ?_ | refine qkC ?_ _)); refine blk_put (cs := #[.string a0, .bool false, .slice (some ⟨go8, 0, none⟩) y232.length co8, .int .i64 0, .int .i64 0, .int .i64 0, .string (⟨#[]⟩ : ByteArray), .int .i64 0, .int .i64 0]) ?_ 3 _ rfl; (with_reducible repeat (first | refine qkA ?_ _ | refine qkB ?_ | refine qkC ?_ _)); refine blk_put (cs := #[.string a0, .bool false, .slice none 0 0, .int .i64 0, .int .i64 0, .int .i64 0, .string (⟨#[]⟩ : ByteArray), .int .i64 0, .int .i64 0]) ?_ 2 _ rfl; (with_reducible repeat (first | refine qkA ?_ _ | refine qkB ?_ | refine qkC ?_ _)); refine blk_put (cs := #[.string a0, .bool false, .slice none 0 0, .int .i64 0, .int .i64 0, .int .i64 0, .string (⟨#[]⟩ : ByteArray), .int .i64 0, .int .i64 0]) ?_ 1 _ rfl; (with_reducible repeat (first | refine qkA ?_ _ | refine qkB ?_ | refine qkC ?_ _)); refine blk_put (cs := #[.string (⟨#[]⟩ : ByteArray), .bool false, .slice none 0 0, .int .i64 0, .int .i64 0, .int .i64 0, .string (⟨#[]⟩ : ByteArray), .int .i64 0, .int .i64 0]) ?_ 0 _ rfl; (with_reducible repeat (first | refine qkA ?_ _ | refine qkB ?_ | refine qkC ?_ _)); exact BK231.out) Tryd.underlying39 rfl (by kernel_rfl)) rfl ?_
 exact ⟨_, by first | rfl | (simp [errW_none, errW_some] <;> rfl) | (simp [*, errW_none, errW_some] <;> rfl), by (with_reducible repeat (first | apply Kd.R_alloc | apply Kd.R_drewN | apply Kd.R_drew)); exact Kd.R_mono (Kd.R_far (p := ⟨gb231, 8, none⟩) (Kd.R_far (p := ⟨gb231, 7, none⟩) (Kd.R_far (p := ⟨gb231, 6, none⟩) (Kd.R_far (p := ⟨gb231, 5, none⟩) (Kd.R_far (p := ⟨gb231, 4, none⟩) (Kd.R_far (p := ⟨gb231, 3, none⟩) (Kd.R_far (p := ⟨gb231, 2, none⟩) (Kd.R_far (p := ⟨gb231, 1, none⟩) (Kd.R_far (p := ⟨gb231, 0, none⟩) (Kd.R_types HO234.out BK231.out (by decide)) (fun _ hk => hk.2) (.string a0)) (fun _ hk => hk.2) (.bool false)) (fun _ hk => hk.2) (.slice (some ⟨go8, 0, none⟩) y232.length co8)) (fun _ hk => hk.2) (.int .i64 a2)) (fun _ hk => hk.2) (.int .i64 a1)) (fun _ hk => hk.2) (.int .i64 0)) (fun _ hk => hk.2) (.string a3)) (fun _ hk => hk.2) (.int .i64 (a3.size : Int))) (fun _ hk => hk.2) (.int .i64 t236)) (fun _ hk => trivial), by repeat (first | (with_reducible first | exact HB.out | apply qbA | apply qbB | apply qbC | refine below_set ?_ GE231.out) | exact HB.out)⟩

attribute [local go_sem] max2_int min2_int max_two min_two max_three min_three max_four min_four   -- for this text's walks alone
set_option linter.unusedVariables false
set_option linter.unusedSimpArgs false

/-! ### pm_awake: function 25 -/
def pm_awake.f (k : Nat)  : Option (Bool) := (pm_small.f k (⟨#[97]⟩ : ByteArray) 0 1 (⟨#[104, 105]⟩ : ByteArray)).bind fun bt237 => ((some (([(⟨bt237.1, bt237.2.1, bt237.2.2.1, bt237.2.2.2.1, bt237.2.2.2.2.1, bt237.2.2.2.2.2.1, bt237.2.2.2.2.2.2.1, bt237.2.2.2.2.2.2.2.1, bt237.2.2.2.2.2.2.2.2⟩ : S39)] : List (S39)) : List (S39))).bind fun y248 => ((zipput_Put.f y248).bind fun bt252 => ((zipput_Put.f ([] : List (S39))).bind fun bt254 => (if 0 < (y248.length : Int) then (if y248.length < 1353245080339 then ((some (y248 ++ [(⟨(rd_T39 y248 0).f0, (rd_T39 y248 0).f1, (rd_T39 y248 0).f2, (rd_T39 y248 0).f3, (rd_T39 y248 0).f4, (rd_T39 y248 0).f5, (rd_T39 y248 0).f6, (rd_T39 y248 0).f7, (rd_T39 y248 0).f8⟩ : S39)] : List (S39))).bind fun y257 => ((zipput_Put.f y257).bind fun bt260 => (if (bt252.1.size : Int) = 154 then (if 0 ≤ 6 then (if 6 ≤ (bt252.1.size : Int) then (if (bt252.1.extract 0 6).toList = ([80, 75, 3, 4, 20, 0] : List UInt8) then ((pl_Num.f bt252.2).bind fun t262 => (if t262 = 0 then (if 1 ≤ (y257.length : Int) then ((zipput_Size.f (y257.take 1)).bind fun t268 => (if t268 = (bt252.1.size : Int) then (if bt254.1.toList = ([80, 75, 5, 6, 0, 0, 0, 0, 0, 0, 0, 0, 0, 0, 0, 0, 0, 0, 0, 0, 0, 0] : List UInt8) then ((pl_Num.f bt254.2).bind fun t269 => (if t269 = 0 then ((pl_Num.f bt260.2).bind fun t270 => (if t270 = 1300 then ((zipput_May.f ([] : List (S39))).bind fun t271 => (if t271 = true then ((zipput_May.f y257).bind fun t272 => (some (!t272))) else (none))) else (none))) else (none))) else (none)) else (none))) else (none)) else (none))) else (none)) else (none)) else (none)) else (none)))) else (none)) else (none)))))
theorem pm_awake.mono : ∀ k, LeO (pm_awake.f k ) (pm_awake.f (k + 1) ) := by
 intro  k
 unfold pm_awake.f
 repeat' first
   | (with_reducible exact pm_small.mono _ _ _ _ _)
   | (with_reducible exact LeO.refl _)
   | (with_reducible exact LeO.none _)
   | (with_reducible refine LeO.ite ?_ ?_)
   | (with_reducible refine LeO.bind ?_ (fun _ => ?_))
   | exact pm_small.mono _ _ _ _ _
   | exact LeO.none _
   | refine LeO.ite ?_ ?_
   | refine LeO.bind ?_ (fun _ => ?_)
def pm_awake.T4 : Bool × List (List Nat × List Nat) := (true, [([], []), ([0], [0]), ([], []), ([2], [2]), ([3], [3]), ([4], [4]), ([5], [5]), ([1, 6], [1, 6]), ([0, 1, 2, 3, 4, 5, 6, 7], []), ([8, 7, 7, 0, 1, 2, 3, 4, 5, 6, 7], [7, 8])])
def pm_awake.B4 : List Nat := [0, 1, 0, 4, 12, 28, 60, 127, 255, 511]
theorem pm_awake.tab4 : rtab .any (opsOf Tryd.f25 4) = pm_awake.T4 := by kernel_rfl
theorem pm_awake.bits4 : waitsOk pm_awake.T4.2 pm_awake.B4 = true := by kernel_rfl
set_option maxHeartbeats 8000000 in
set_option maxRecDepth 100000 in
theorem pm_awake.calls (k : Nat)  (r : Bool) (w : World) (h : pm_awake.f k  = some r) :
  Calls Tryd.prog 25 #[] w fun e w' => e = .returned (.bool r) ∧ Below w.heap.size w w' := by
 have hu24 := Tryd.underlying24
 have hu39 := Tryd.underlying39
 have HB := qas (Below.refl w.heap.size w)
 have H : ((pm_small.f k (⟨#[97]⟩ : ByteArray) 0 1 (⟨#[104, 105]⟩ : ByteArray)).bind fun bt237 => ((some (([(⟨bt237.1, bt237.2.1, bt237.2.2.1, bt237.2.2.2.1, bt237.2.2.2.2.1, bt237.2.2.2.2.2.1, bt237.2.2.2.2.2.2.1, bt237.2.2.2.2.2.2.2.1, bt237.2.2.2.2.2.2.2.2⟩ : S39)] : List (S39)) : List (S39))).bind fun y248 => ((zipput_Put.f y248).bind fun bt252 => ((zipput_Put.f ([] : List (S39))).bind fun bt254 => (if 0 < (y248.length : Int) then (if y248.length < 1353245080339 then ((some (y248 ++ [(⟨(rd_T39 y248 0).f0, (rd_T39 y248 0).f1, (rd_T39 y248 0).f2, (rd_T39 y248 0).f3, (rd_T39 y248 0).f4, (rd_T39 y248 0).f5, (rd_T39 y248 0).f6, (rd_T39 y248 0).f7, (rd_T39 y248 0).f8⟩ : S39)] : List (S39))).bind fun y257 => ((zipput_Put.f y257).bind fun bt260 => (if (bt252.1.size : Int) = 154 then (if 0 ≤ 6 then (if 6 ≤ (bt252.1.size : Int) then (if (bt252.1.extract 0 6).toList = ([80, 75, 3, 4, 20, 0] : List UInt8) then ((pl_Num.f bt252.2).bind fun t262 => (if t262 = 0 then (if 1 ≤ (y257.length : Int) then ((zipput_Size.f (y257.take 1)).bind fun t268 => (if t268 = (bt252.1.size : Int) then (if bt254.1.toList = ([80, 75, 5, 6, 0, 0, 0, 0, 0, 0, 0, 0, 0, 0, 0, 0, 0, 0, 0, 0, 0, 0] : List UInt8) then ((pl_Num.f bt254.2).bind fun t269 => (if t269 = 0 then ((pl_Num.f bt260.2).bind fun t270 => (if t270 = 1300 then ((zipput_May.f ([] : List (S39))).bind fun t271 => (if t271 = true then ((zipput_May.f y257).bind fun t272 => (some (!t272))) else (none))) else (none))) else (none))) else (none)) else (none))) else (none)) else (none))) else (none)) else (none)) else (none)) else (none)))) else (none)) else (none)))))) = some r := h
 clear h
 replace H := Option.bind_eq_some_iff.mp H
 obtain ⟨⟨t237, t238, t239, t242, t243, t244, t245, t246, t247⟩, A10, H⟩ := H
 replace H : ((some (([(⟨t237, t238, t239, t242, t243, t244, t245, t246, t247⟩ : S39)] : List (S39)) : List (S39))).bind fun y248 => ((zipput_Put.f y248).bind fun bt252 => ((zipput_Put.f ([] : List (S39))).bind fun bt254 => (if 0 < (y248.length : Int) then (if y248.length < 1353245080339 then ((some (y248 ++ [(⟨(rd_T39 y248 0).f0, (rd_T39 y248 0).f1, (rd_T39 y248 0).f2, (rd_T39 y248 0).f3, (rd_T39 y248 0).f4, (rd_T39 y248 0).f5, (rd_T39 y248 0).f6, (rd_T39 y248 0).f7, (rd_T39 y248 0).f8⟩ : S39)] : List (S39))).bind fun y257 => ((zipput_Put.f y257).bind fun bt260 => (if (bt252.1.size : Int) = 154 then (if 0 ≤ 6 then (if 6 ≤ (bt252.1.size : Int) then (if (bt252.1.extract 0 6).toList = ([80, 75, 3, 4, 20, 0] : List UInt8) then ((pl_Num.f bt252.2).bind fun t262 => (if t262 = 0 then (if 1 ≤ (y257.length : Int) then ((zipput_Size.f (y257.take 1)).bind fun t268 => (if t268 = (bt252.1.size : Int) then (if bt254.1.toList = ([80, 75, 5, 6, 0, 0, 0, 0, 0, 0, 0, 0, 0, 0, 0, 0, 0, 0, 0, 0, 0, 0] : List UInt8) then ((pl_Num.f bt254.2).bind fun t269 => (if t269 = 0 then ((pl_Num.f bt260.2).bind fun t270 => (if t270 = 1300 then ((zipput_May.f ([] : List (S39))).bind fun t271 => (if t271 = true then ((zipput_May.f y257).bind fun t272 => (some (!t272))) else (none))) else (none))) else (none))) else (none)) else (none))) else (none)) else (none))) else (none)) else (none)) else (none)) else (none)))) else (none)) else (none))))) = some r := H
 have A1 := qas A10
 clear A10
 obtain ⟨y248, hy248⟩ : ∃ y_ : List (S39), y_ = (([(⟨t237, t238, t239, t242, t243, t244, t245, t246, t247⟩ : S39)] : List (S39))) := ⟨_, rfl⟩
 replace H : ((zipput_Put.f y248).bind fun bt252 => ((zipput_Put.f ([] : List (S39))).bind fun bt254 => (if 0 < (y248.length : Int) then (if y248.length < 1353245080339 then ((some (y248 ++ [(⟨(rd_T39 y248 0).f0, (rd_T39 y248 0).f1, (rd_T39 y248 0).f2, (rd_T39 y248 0).f3, (rd_T39 y248 0).f4, (rd_T39 y248 0).f5, (rd_T39 y248 0).f6, (rd_T39 y248 0).f7, (rd_T39 y248 0).f8⟩ : S39)] : List (S39))).bind fun y257 => ((zipput_Put.f y257).bind fun bt260 => (if (bt252.1.size : Int) = 154 then (if 0 ≤ 6 then (if 6 ≤ (bt252.1.size : Int) then (if (bt252.1.extract 0 6).toList = ([80, 75, 3, 4, 20, 0] : List UInt8) then ((pl_Num.f bt252.2).bind fun t262 => (if t262 = 0 then (if 1 ≤ (y257.length : Int) then ((zipput_Size.f (y257.take 1)).bind fun t268 => (if t268 = (bt252.1.size : Int) then (if bt254.1.toList = ([80, 75, 5, 6, 0, 0, 0, 0, 0, 0, 0, 0, 0, 0, 0, 0, 0, 0, 0, 0, 0, 0] : List UInt8) then ((pl_Num.f bt254.2).bind fun t269 => (if t269 = 0 then ((pl_Num.f bt260.2).bind fun t270 => (if t270 = 1300 then ((zipput_May.f ([] : List (S39))).bind fun t271 => (if t271 = true then ((zipput_May.f y257).bind fun t272 => (some (!t272))) else (none))) else (none))) else (none))) else (none)) else (none))) else (none)) else (none))) else (none)) else (none)) else (none)) else (none)))) else (none)) else (none)))) = some r := by first | (rw [hy248]; with_reducible exact H) | (have H2_ := (Option.bind_some _ _).symm.trans H; rw [hy248]; with_reducible exact H2_) | (have H2_ := (Option.bind_some _ _).symm.trans H; with_reducible exact H2_) | with_reducible exact H | (rw [hy248]; exact H) | exact H
 have Ny248 := qas hy248
 clear hy248
 replace H := Option.bind_eq_some_iff.mp H
 obtain ⟨⟨t252, t253⟩, A20, H⟩ := H
 replace H : ((zipput_Put.f ([] : List (S39))).bind fun bt254 => (if 0 < (y248.length : Int) then (if y248.length < 1353245080339 then ((some (y248 ++ [(⟨(rd_T39 y248 0).f0, (rd_T39 y248 0).f1, (rd_T39 y248 0).f2, (rd_T39 y248 0).f3, (rd_T39 y248 0).f4, (rd_T39 y248 0).f5, (rd_T39 y248 0).f6, (rd_T39 y248 0).f7, (rd_T39 y248 0).f8⟩ : S39)] : List (S39))).bind fun y257 => ((zipput_Put.f y257).bind fun bt260 => (if (t252.size : Int) = 154 then (if 0 ≤ 6 then (if 6 ≤ (t252.size : Int) then (if (t252.extract 0 6).toList = ([80, 75, 3, 4, 20, 0] : List UInt8) then ((pl_Num.f t253).bind fun t262 => (if t262 = 0 then (if 1 ≤ (y257.length : Int) then ((zipput_Size.f (y257.take 1)).bind fun t268 => (if t268 = (t252.size : Int) then (if bt254.1.toList = ([80, 75, 5, 6, 0, 0, 0, 0, 0, 0, 0, 0, 0, 0, 0, 0, 0, 0, 0, 0, 0, 0] : List UInt8) then ((pl_Num.f bt254.2).bind fun t269 => (if t269 = 0 then ((pl_Num.f bt260.2).bind fun t270 => (if t270 = 1300 then ((zipput_May.f ([] : List (S39))).bind fun t271 => (if t271 = true then ((zipput_May.f y257).bind fun t272 => (some (!t272))) else (none))) else (none))) else (none))) else (none)) else (none))) else (none)) else (none))) else (none)) else (none)) else (none)) else (none)))) else (none)) else (none))) = some r := H
 have A2 := qas A20
 clear A20
 replace H := Option.bind_eq_some_iff.mp H
 obtain ⟨⟨t254, t255⟩, A30, H⟩ := H
 replace H : (if 0 < (y248.length : Int) then (if y248.length < 1353245080339 then ((some (y248 ++ [(⟨(rd_T39 y248 0).f0, (rd_T39 y248 0).f1, (rd_T39 y248 0).f2, (rd_T39 y248 0).f3, (rd_T39 y248 0).f4, (rd_T39 y248 0).f5, (rd_T39 y248 0).f6, (rd_T39 y248 0).f7, (rd_T39 y248 0).f8⟩ : S39)] : List (S39))).bind fun y257 => ((zipput_Put.f y257).bind fun bt260 => (if (t252.size : Int) = 154 then (if 0 ≤ 6 then (if 6 ≤ (t252.size : Int) then (if (t252.extract 0 6).toList = ([80, 75, 3, 4, 20, 0] : List UInt8) then ((pl_Num.f t253).bind fun t262 => (if t262 = 0 then (if 1 ≤ (y257.length : Int) then ((zipput_Size.f (y257.take 1)).bind fun t268 => (if t268 = (t252.size : Int) then (if t254.toList = ([80, 75, 5, 6, 0, 0, 0, 0, 0, 0, 0, 0, 0, 0, 0, 0, 0, 0, 0, 0, 0, 0] : List UInt8) then ((pl_Num.f t255).bind fun t269 => (if t269 = 0 then ((pl_Num.f bt260.2).bind fun t270 => (if t270 = 1300 then ((zipput_May.f ([] : List (S39))).bind fun t271 => (if t271 = true then ((zipput_May.f y257).bind fun t272 => (some (!t272))) else (none))) else (none))) else (none))) else (none)) else (none))) else (none)) else (none))) else (none)) else (none)) else (none)) else (none)))) else (none)) else (none)) = some r := H
 have A3 := qas A30
 clear A30
 by_cases c4 : 0 < (y248.length : Int)
 rotate_left
 ·rw [if_neg c4] at H
  exact absurd H (by simp)
 rw [if_pos c4] at H
 have c4b0 : decide (0 < (y248.length : Int)) = true := decide_eq_true c4
 have c4b1 : decide (0 < y248.length) = true := decide_eq_true (by omega)
 clear c4
 by_cases c5 : y248.length < 1353245080339
 rotate_left
 ·rw [if_neg c5] at H
  exact absurd H (by simp)
 rw [if_pos c5] at H
 have LMc5 := qas c5
 clear c5
 obtain ⟨y257, hy257⟩ : ∃ y_ : List (S39), y_ = (y248 ++ [(⟨(rd_T39 y248 0).f0, (rd_T39 y248 0).f1, (rd_T39 y248 0).f2, (rd_T39 y248 0).f3, (rd_T39 y248 0).f4, (rd_T39 y248 0).f5, (rd_T39 y248 0).f6, (rd_T39 y248 0).f7, (rd_T39 y248 0).f8⟩ : S39)]) := ⟨_, rfl⟩
 replace H : ((zipput_Put.f y257).bind fun bt260 => (if (t252.size : Int) = 154 then (if 0 ≤ 6 then (if 6 ≤ (t252.size : Int) then (if (t252.extract 0 6).toList = ([80, 75, 3, 4, 20, 0] : List UInt8) then ((pl_Num.f t253).bind fun t262 => (if t262 = 0 then (if 1 ≤ (y257.length : Int) then ((zipput_Size.f (y257.take 1)).bind fun t268 => (if t268 = (t252.size : Int) then (if t254.toList = ([80, 75, 5, 6, 0, 0, 0, 0, 0, 0, 0, 0, 0, 0, 0, 0, 0, 0, 0, 0, 0, 0] : List UInt8) then ((pl_Num.f t255).bind fun t269 => (if t269 = 0 then ((pl_Num.f bt260.2).bind fun t270 => (if t270 = 1300 then ((zipput_May.f ([] : List (S39))).bind fun t271 => (if t271 = true then ((zipput_May.f y257).bind fun t272 => (some (!t272))) else (none))) else (none))) else (none))) else (none)) else (none))) else (none)) else (none))) else (none)) else (none)) else (none)) else (none))) = some r := by first | (rw [hy257]; with_reducible exact H) | (have H2_ := (Option.bind_some _ _).symm.trans H; rw [hy257]; with_reducible exact H2_) | (have H2_ := (Option.bind_some _ _).symm.trans H; with_reducible exact H2_) | with_reducible exact H | (rw [hy257]; exact H) | exact H
 have Ny257 := qas hy257
 clear hy257
 replace H := Option.bind_eq_some_iff.mp H
 obtain ⟨⟨t260, t261⟩, A60, H⟩ := H
 replace H : (if (t252.size : Int) = 154 then (if 0 ≤ 6 then (if 6 ≤ (t252.size : Int) then (if (t252.extract 0 6).toList = ([80, 75, 3, 4, 20, 0] : List UInt8) then ((pl_Num.f t253).bind fun t262 => (if t262 = 0 then (if 1 ≤ (y257.length : Int) then ((zipput_Size.f (y257.take 1)).bind fun t268 => (if t268 = (t252.size : Int) then (if t254.toList = ([80, 75, 5, 6, 0, 0, 0, 0, 0, 0, 0, 0, 0, 0, 0, 0, 0, 0, 0, 0, 0, 0] : List UInt8) then ((pl_Num.f t255).bind fun t269 => (if t269 = 0 then ((pl_Num.f t261).bind fun t270 => (if t270 = 1300 then ((zipput_May.f ([] : List (S39))).bind fun t271 => (if t271 = true then ((zipput_May.f y257).bind fun t272 => (some (!t272))) else (none))) else (none))) else (none))) else (none)) else (none))) else (none)) else (none))) else (none)) else (none)) else (none)) else (none)) = some r := H
 have A6 := qas A60
 clear A60
 by_cases c7 : (t252.size : Int) = 154
 rotate_left
 ·rw [if_neg c7] at H
  exact absurd H (by simp)
 rw [if_pos c7] at H
 have c7b0 : ((t252.size : Int) == 154) = true := beq_iff_eq.mpr c7
 have c7b1 : ((t252.size : Int) != 154) = false := bne_eq_false_iff_eq.mpr c7
 clear c7
 by_cases c8 : 0 ≤ 6
 rotate_left
 ·rw [if_neg c8] at H
  exact absurd H (by simp)
 rw [if_pos c8] at H
 have c8b0 := eq_true c8
 have c8b1 : decide (0 ≤ 6) = true := decide_eq_true c8
 clear c8
 by_cases c9 : 6 ≤ (t252.size : Int)
 rotate_left
 ·rw [if_neg c9] at H
  exact absurd H (by simp)
 rw [if_pos c9] at H
 have c9b0 := eq_true c9
 have c9b1 : decide (6 ≤ (t252.size : Int)) = true := decide_eq_true c9
 clear c9
 by_cases c10 : (t252.extract 0 6).toList = ([80, 75, 3, 4, 20, 0] : List UInt8)
 rotate_left
 ·rw [if_neg c10] at H
  exact absurd H (by simp)
 rw [if_pos c10] at H
 have c10b0 : ((t252.extract 0 6).toList == ([80, 75, 3, 4, 20, 0] : List UInt8)) = true := beq_iff_eq.mpr c10
 have c10b1 : ((t252.extract 0 6).toList != ([80, 75, 3, 4, 20, 0] : List UInt8)) = false := bne_eq_false_iff_eq.mpr c10
 clear c10
 replace H := Option.bind_eq_some_iff.mp H
 obtain ⟨t262, A110, H⟩ := H
 replace H : (if t262 = 0 then (if 1 ≤ (y257.length : Int) then ((zipput_Size.f (y257.take 1)).bind fun t268 => (if t268 = (t252.size : Int) then (if t254.toList = ([80, 75, 5, 6, 0, 0, 0, 0, 0, 0, 0, 0, 0, 0, 0, 0, 0, 0, 0, 0, 0, 0] : List UInt8) then ((pl_Num.f t255).bind fun t269 => (if t269 = 0 then ((pl_Num.f t261).bind fun t270 => (if t270 = 1300 then ((zipput_May.f ([] : List (S39))).bind fun t271 => (if t271 = true then ((zipput_May.f y257).bind fun t272 => (some (!t272))) else (none))) else (none))) else (none))) else (none)) else (none))) else (none)) else (none)) = some r := H
 have A11 := qas A110
 clear A110
 by_cases c12 : t262 = 0
 rotate_left
 ·rw [if_neg c12] at H
  exact absurd H (by simp)
 rw [if_pos c12] at H
 have c12b0 : (t262 == 0) = true := beq_iff_eq.mpr c12
 have c12b1 : (t262 != 0) = false := bne_eq_false_iff_eq.mpr c12
 clear c12
 by_cases c13 : 1 ≤ (y257.length : Int)
 rotate_left
 ·rw [if_neg c13] at H
  exact absurd H (by simp)
 rw [if_pos c13] at H
 have c13b0 := eq_true c13
 have c13b1 : decide (1 ≤ (y257.length : Int)) = true := decide_eq_true c13
 clear c13
 obtain ⟨y263, hy263⟩ : ∃ y_ : List (S39), y_ = (y257.take 1) := ⟨_, rfl⟩
 replace H : ((zipput_Size.f y263).bind fun t268 => (if t268 = (t252.size : Int) then (if t254.toList = ([80, 75, 5, 6, 0, 0, 0, 0, 0, 0, 0, 0, 0, 0, 0, 0, 0, 0, 0, 0, 0, 0] : List UInt8) then ((pl_Num.f t255).bind fun t269 => (if t269 = 0 then ((pl_Num.f t261).bind fun t270 => (if t270 = 1300 then ((zipput_May.f ([] : List (S39))).bind fun t271 => (if t271 = true then ((zipput_May.f y257).bind fun t272 => (some (!t272))) else (none))) else (none))) else (none))) else (none)) else (none))) = some r := by first | (rw [hy263]; with_reducible exact H) | (have H2_ := (Option.bind_some _ _).symm.trans H; rw [hy263]; with_reducible exact H2_) | (have H2_ := (Option.bind_some _ _).symm.trans H; with_reducible exact H2_) | with_reducible exact H | (rw [hy263]; exact H) | exact H
 have Ny263 := qas hy263
 clear hy263
 replace H := Option.bind_eq_some_iff.mp H
 obtain ⟨t268, A140, H⟩ := H
 replace H : (if t268 = (t252.size : Int) then (if t254.toList = ([80, 75, 5, 6, 0, 0, 0, 0, 0, 0, 0, 0, 0, 0, 0, 0, 0, 0, 0, 0, 0, 0] : List UInt8) then ((pl_Num.f t255).bind fun t269 => (if t269 = 0 then ((pl_Num.f t261).bind fun t270 => (if t270 = 1300 then ((zipput_May.f ([] : List (S39))).bind fun t271 => (if t271 = true then ((zipput_May.f y257).bind fun t272 => (some (!t272))) else (none))) else (none))) else (none))) else (none)) else (none)) = some r := H
 have A14 := qas A140
 clear A140
 by_cases c15 : t268 = (t252.size : Int)
 rotate_left
 ·rw [if_neg c15] at H
  exact absurd H (by simp)
 rw [if_pos c15] at H
 have c15b0 : (t268 == (t252.size : Int)) = true := beq_iff_eq.mpr c15
 have c15b1 : (t268 != (t252.size : Int)) = false := bne_eq_false_iff_eq.mpr c15
 clear c15
 by_cases c16 : t254.toList = ([80, 75, 5, 6, 0, 0, 0, 0, 0, 0, 0, 0, 0, 0, 0, 0, 0, 0, 0, 0, 0, 0] : List UInt8)
 rotate_left
 ·rw [if_neg c16] at H
  exact absurd H (by simp)
 rw [if_pos c16] at H
 have c16b0 : (t254.toList == ([80, 75, 5, 6, 0, 0, 0, 0, 0, 0, 0, 0, 0, 0, 0, 0, 0, 0, 0, 0, 0, 0] : List UInt8)) = true := beq_iff_eq.mpr c16
 have c16b1 : (t254.toList != ([80, 75, 5, 6, 0, 0, 0, 0, 0, 0, 0, 0, 0, 0, 0, 0, 0, 0, 0, 0, 0, 0] : List UInt8)) = false := bne_eq_false_iff_eq.mpr c16
 clear c16
 replace H := Option.bind_eq_some_iff.mp H
 obtain ⟨t269, A170, H⟩ := H
 replace H : (if t269 = 0 then ((pl_Num.f t261).bind fun t270 => (if t270 = 1300 then ((zipput_May.f ([] : List (S39))).bind fun t271 => (if t271 = true then ((zipput_May.f y257).bind fun t272 => (some (!t272))) else (none))) else (none))) else (none)) = some r := H
 have A17 := qas A170
 clear A170
 by_cases c18 : t269 = 0
 rotate_left
 ·rw [if_neg c18] at H
  exact absurd H (by simp)
 rw [if_pos c18] at H
 have c18b0 : (t269 == 0) = true := beq_iff_eq.mpr c18
 have c18b1 : (t269 != 0) = false := bne_eq_false_iff_eq.mpr c18
 clear c18
 replace H := Option.bind_eq_some_iff.mp H
 obtain ⟨t270, A190, H⟩ := H
 replace H : (if t270 = 1300 then ((zipput_May.f ([] : List (S39))).bind fun t271 => (if t271 = true then ((zipput_May.f y257).bind fun t272 => (some (!t272))) else (none))) else (none)) = some r := H
 have A19 := qas A190
 clear A190
 by_cases c20 : t270 = 1300
 rotate_left
 ·rw [if_neg c20] at H
  exact absurd H (by simp)
 rw [if_pos c20] at H
 have c20b0 : (t270 == 1300) = true := beq_iff_eq.mpr c20
 have c20b1 : (t270 != 1300) = false := bne_eq_false_iff_eq.mpr c20
 clear c20
 replace H := Option.bind_eq_some_iff.mp H
 obtain ⟨t271, A210, H⟩ := H
 replace H : (if t271 = true then ((zipput_May.f y257).bind fun t272 => (some (!t272))) else (none)) = some r := H
 have A21 := qas A210
 clear A210
 by_cases c22 : t271 = true
 rotate_left
 ·replace c22 := Bool.eq_false_iff.mpr c22
  subst c22
  have H1 : (none) = some r := by rw [if_neg (show ¬ (false = true) by decide)] at H; exact H
  clear H
  have H := H1
  clear H1
  exact absurd H (by simp)
 subst c22
 have H1 : ((zipput_May.f y257).bind fun t272 => (some (!t272))) = some r := by rw [if_pos rfl] at H; exact H
 clear H
 have H := H1
 clear H1
 replace H := Option.bind_eq_some_iff.mp H
 obtain ⟨t272, A230, H⟩ := H
 replace H : (some (!t272)) = some r := H
 have A23 := qas A230
 clear A230
 obtain rfl := Option.some.inj H
 go_enter Tryd.func25, Tryd.ntmps25
 try go_wp2_with (first | ((with_reducible refine gate_callee (f := 27) rfl ?_); refine goesL_ (some 8) rfl rfl Tryd.func27 (by kernel_rfl) rfl #[.string (⟨#[97]⟩ : ByteArray), .int .i64 0, .int .i64 1, .string (⟨#[104, 105]⟩ : ByteArray)] rfl (by (try simp only [List.map_toArray, List.map_cons, List.map_nil]); first | done | rfl | (simp only [List.length_drop, List.length_take]; rfl)) ?_; (with_reducible refine (pm_small.calls k (⟨#[97]⟩ : ByteArray) 0 1 (⟨#[104, 105]⟩ : ByteArray) t237 t238 t239 t242 t243 t244 t245 t246 t247 _ A1.out).mono ?_); rintro e w24 ⟨v240, rfl, ho0, hb⟩; refine ⟨_, rfl, ?_⟩; have n0_ := qas (Kd.R_lower ho0 (below_size (by repeat (first | (with_reducible first | exact HB.out | apply qbA | apply qbB | apply qbC) | exact HB.out)))); have n1_ := qas (below_step (by repeat (first | (with_reducible first | exact HB.out | apply qbA | apply qbB | apply qbC) | exact HB.out)) hb); clear HB; have HO241 := n0_; have HB := n1_; clear n0_ n1_; (try clear hb); (try clear hb2); (try clear hk); (try clear hi); (try clear ho0); obtain ⟨Ao25, co25, eo25⟩ := Kd.R_slice HO241.out; subst eo25) | ((with_reducible refine gate_dst (N := 9) rfl ?_); (try (refine gate_guard (by rfl) ?_; dsimp only)); refine Kd.N_lit k39 _ 39 ?hg (N' := 9) ?hd (xs := ([(⟨t237, t238, t239, t242, t243, t244, t245, t246, t247⟩ : S39)] : List (S39))) (inner := [.string t237, .bool t238, .slice Ao25 t239.length co25, .int .i64 t242, .int .i64 t243, .int .i64 t244, .string t245, .int .i64 t246, .int .i64 t247]) (ok := (fun _ => True)) (okp := (fun _ => True)) ?hr ?hp (fun _ hk => hk) ((show ∀ k_, w24.heap.size ≤ k_ → (fun _ => True) k_ from fun k_ hk => trivial) _ (Nat.le_refl _)) (Below.refl _ _) (Nat.le_refl _) (by simp) ?_; (case hd => rfl); (case hg => rfl); (case hr => first | (go_simp; done) | (go_simp; rfl)); (case hp => exact (Reps.c9 (show Kd.FK k39 _ _ (⟨t237, t238, t239, t242, t243, t244, t245, t246, t247⟩ : S39) [.string t237, .bool t238, .slice Ao25 t239.length co25, .int .i64 t242, .int .i64 t243, .int .i64 t244, .string t245, .int .i64 t246, .int .i64 t247] from (k39_mkF _ _ (⟨t237, t238, t239, t242, t243, t244, t245, t246, t247⟩ : S39) (Kd.R_reads' (Kd.R_mono (ok' := (fun _ => True)) (HO241.out) (fun k_ hk => trivial))).2.1 (Kd.R_F (Kd.R_mono (ok' := (fun _ => True)) (HO241.out) (fun k_ hk => trivial))))) (Reps.none _ _))); intro v249 w26 ho27 hb hg_ hnew_; clear hg_ hnew_; (first | rw [← Ny248.out] at ho27 | (simp only [Int.reduceToNat] at ho27; rw [← Ny248.out] at ho27)); have n0_ := qas (Kd.N_lower ho27 (below_size (by repeat (first | (with_reducible first | exact HB.out | apply qbA | apply qbB | apply qbC) | exact HB.out)))); have n1_ := qas (below_step (by repeat (first | (with_reducible first | exact HB.out | apply qbA | apply qbB | apply qbC) | exact HB.out)) hb); clear HB; clear HO241; have HO250 := n0_; have HB := n1_; clear n0_ n1_; clear hb ho27; obtain ⟨Ao28, co28, eo28⟩ := Kd.N_slice HO250.out; subst eo28) | ((with_reducible refine gate_dst (N := 1) rfl ?_); (try (refine gate_guard (by rfl) ?_; dsimp only)); refine box_event ?hg (N := 1) ?hd (cs := #[.slice none 0 0]) (t := 24) ?hr ?_; (case hd => rfl); (case hg => rfl); (case hr => first | (go_simp; done) | (go_simp; rfl)); intro gb251 hg w29 hbox hb; have n0_ := qas (Kd.N_below (Kd.N_elderB (by (with_reducible repeat (first | apply Kd.N_alloc | apply Kd.N_drewN | apply Kd.N_drew)); exact HO250.out) gb251 (Nat.le_of_eq hg.symm)) hb); have n1_ := qas (below_step (by repeat (first | (with_reducible first | exact HB.out | apply qbA | apply qbB | apply qbC) | exact HB.out)) hb); have n2_ := qas (hbox); have n3_ := qas ((by rw [hg]; exact (below_size (by repeat (first | (with_reducible first | exact HB.out | apply qbA | apply qbB | apply qbC) | exact HB.out))) : w.heap.size ≤ gb251)); have n4_ := qas ((by rw [hg]; exact (below_size (by repeat (first | (with_reducible first | exact HB.out | apply qbA | apply qbB | apply qbC) | exact HB.out))) : w.heap.size ≤ gb251)); clear HO250; clear HB; have HO250 := n0_; have HB := n1_; have BK251 := n2_; have GW251 := n3_; have GE251 := n4_; clear n0_ n1_ n2_ n3_ n4_; clear hb hbox hg; have hcz30_0 : w29.cell? ⟨gb251, 0, none⟩ = some (.slice none 0 0) := (blk_cell BK251.out 0).trans rfl; have hfz30_0 := blk_frozen BK251.out 0) | ((with_reducible refine gate_callee (f := 17) rfl ?_); refine goesL_ (some 13) rfl rfl Tryd.func17 (by kernel_rfl) rfl #[.agg #[.slice Ao28 y248.length co28]] rfl (by (try simp only [List.map_toArray, List.map_cons, List.map_nil]); first | done | rfl | (simp only [List.length_drop, List.length_take]; rfl)) ?_; (with_reducible refine (zipput_Put.calls _ _ y248 t252 t253 _ ?side1 ?side2 A2.out).mono ?_); (case side1 => refine (Kd.N_reads' (e := 39) (base := w.heap.size) (ok := fun k_ => (True ∧ k_ ≠ gb251)) (n := y248.length) (c := co28) ?_).2.2; exact (by (with_reducible repeat (first | apply Kd.N_alloc | apply Kd.N_drewN | apply Kd.N_drew)); exact (Kd.N_mono (Kd.N_far (p := ⟨gb251, 0, none⟩) (Kd.N_mono HO250.out (fun k_ hk => (⟨hk, hk.2⟩ : _ ∧ k_ ≠ gb251))) (fun _ hk => hk.2) (.slice Ao28 y248.length co28)) (fun _ h_ => h_.1)))); (case side2 => exact (Kd.N_reads' HO250.out).2.1); rintro e w31 ⟨rfl, hb⟩; refine ⟨_, rfl, ?_⟩; have n0_ := qas (Kd.N_below (by (with_reducible repeat (first | apply Kd.N_alloc | apply Kd.N_drewN | apply Kd.N_drew)); exact (Kd.N_mono (Kd.N_far (p := ⟨gb251, 0, none⟩) (Kd.N_mono HO250.out (fun k_ hk => (⟨hk, hk.2⟩ : _ ∧ k_ ≠ gb251))) (fun _ hk => hk.2) (.slice Ao28 y248.length co28)) (fun _ h_ => h_.1))) hb); have n1_ := qas (blk_below (g := gb251) (o := .cells #[.slice Ao28 y248.length co28] 24 (0, 0)) (by (with_reducible repeat (first | refine qkA ?_ _ | refine qkB ?_ | refine qkC ?_ _)); refine blk_put (cs := #[.slice none 0 0]) ?_ 0 _ rfl; (with_reducible repeat (first | refine qkA ?_ _ | refine qkB ?_ | refine qkC ?_ _)); exact BK251.out) hb); have n2_ := qas (below_step (by repeat (first | (with_reducible first | exact HB.out | apply qbA | apply qbB | apply qbC | refine below_set ?_ GE251.out) | exact HB.out)) hb); clear HO250; clear BK251; clear HB; have HO250 := n0_; have BK251 := n1_; have HB := n2_; clear n0_ n1_ n2_; (try clear hb); (try clear hb2); (try clear hk); (try clear hi)) | ((with_reducible refine gate_callee (f := 17) rfl ?_); refine goesL_ (some 18) rfl rfl Tryd.func17 (by kernel_rfl) rfl #[.agg #[.slice none 0 0]] rfl (by (try simp only [List.map_toArray, List.map_cons, List.map_nil]); first | done | rfl | (simp only [List.length_drop, List.length_take]; rfl)) ?_; (refine (zipput_Put.calls _ _ ([] : List (S39)) t254 t255 _ ?side1 ?side2 A3.out).mono ?_); (case side1 => exact Kd.C_nil _ _); (case side2 => exact Nat.le_refl _); rintro e w32 ⟨rfl, hb⟩; refine ⟨_, rfl, ?_⟩; have n0_ := qas (Kd.N_below (by (with_reducible repeat (first | apply Kd.N_alloc | apply Kd.N_drewN | apply Kd.N_drew)); exact HO250.out) hb); have n1_ := qas (blk_below (g := gb251) (o := .cells #[.slice Ao28 y248.length co28] 24 (0, 0)) (by (with_reducible repeat (first | refine qkA ?_ _ | refine qkB ?_ | refine qkC ?_ _)); exact BK251.out) hb); have n2_ := qas (below_step (by repeat (first | (with_reducible first | exact HB.out | apply qbA | apply qbB | apply qbC | refine below_set ?_ GE251.out) | exact HB.out)) hb); clear HO250; clear BK251; clear HB; have HO250 := n0_; have BK251 := n1_; have HB := n2_; clear n0_ n1_ n2_; (try clear hb); (try clear hb2); (try clear hk); (try clear hi)))
 have n0_ := qas (Kd.N_drew HO250.out)
 have n1_ := qas (qkB BK251.out)
 have n2_ := qas (qbC HB.out)
 clear HO250
 clear BK251
 clear HB
 have HO250 := n0_
 have BK251 := n1_
 have HB := n2_
 clear n0_ n1_ n2_
 have p256 : 0 ≤ (0 : Int) := (by omega)
 have q256 : 0 < (y248.length : Int) := qde (by first | (with_reducible assumption) | assumption)
 obtain ⟨ad256, A256_2, c256_2, e256, hx256_0, hx256_1, hx256_2, hx256_3, hx256_4, hx256_5, hx256_6, hx256_7, hx256_8, hl256_2, hi256_2⟩ := at_T39 (Kd.N_reads' HO250.out).2.2 0 p256 q256
 cases e256
 obtain ⟨ce256, hce256, hMe256, hcc256⟩ := Kd.N_get HO250.out z39 0 p256 (by first | exact q256 | exact qde (by first | (with_reducible assumption) | assumption) | (have e_ := (Kd.N_reads' HO250.out).1; omega))
 obtain ⟨ua256_2, uc256_2, rfl, ul256_2, ge256_2⟩ := k39_openF hMe256
 have hv256_2 := hcc256 2 _ rfl
 rw [add_field _ _ 2 (by omega)] at hv256_2
 replace hv256_2 := Option.some.inj (hv256_2.symm.trans hx256_2)
 injection hv256_2 with hva_ hvn_ hvc_
 rw [hva_] at ge256_2
 rw [hvc_] at ul256_2
 have HL256_2 := qas (show Kd.V (Kd.int .i64) 3 _ w.heap.size _ _ ((rd_T39 y248 0).f2) from Kd.V_mk ul256_2 ge256_2)
 clear hva_ hvn_ hvc_ ge256_2 ul256_2
 clear hcc256 hce256
 have qi256 : (0 < y248.length) = True := eq_true (by omega)
 (try rw [show ((0 : Int)).toNat = 0 from rfl] at hx256_0)
 (try rw [show 0 * 9 = 0 from rfl] at hx256_0)
 (try rw [Addr.add_zero'] at hx256_0)
 (try rw [show ((0 : Int)).toNat = 0 from rfl] at hx256_1)
 (try rw [show 0 * 9 = 0 from rfl] at hx256_1)
 (try rw [Addr.add_zero'] at hx256_1)
 (try rw [show ((0 : Int)).toNat = 0 from rfl] at hx256_2)
 (try rw [show 0 * 9 = 0 from rfl] at hx256_2)
 (try rw [Addr.add_zero'] at hx256_2)
 (try rw [show ((0 : Int)).toNat = 0 from rfl] at hx256_3)
 (try rw [show 0 * 9 = 0 from rfl] at hx256_3)
 (try rw [Addr.add_zero'] at hx256_3)
 (try rw [show ((0 : Int)).toNat = 0 from rfl] at hx256_4)
 (try rw [show 0 * 9 = 0 from rfl] at hx256_4)
 (try rw [Addr.add_zero'] at hx256_4)
 (try rw [show ((0 : Int)).toNat = 0 from rfl] at hx256_5)
 (try rw [show 0 * 9 = 0 from rfl] at hx256_5)
 (try rw [Addr.add_zero'] at hx256_5)
 (try rw [show ((0 : Int)).toNat = 0 from rfl] at hx256_6)
 (try rw [show 0 * 9 = 0 from rfl] at hx256_6)
 (try rw [Addr.add_zero'] at hx256_6)
 (try rw [show ((0 : Int)).toNat = 0 from rfl] at hx256_7)
 (try rw [show 0 * 9 = 0 from rfl] at hx256_7)
 (try rw [Addr.add_zero'] at hx256_7)
 (try rw [show ((0 : Int)).toNat = 0 from rfl] at hx256_8)
 (try rw [show 0 * 9 = 0 from rfl] at hx256_8)
 (try rw [Addr.add_zero'] at hx256_8)
 have HR256_2 := qas hi256_2
 have HC256_2 := qas hl256_2
 clear hi256_2 hl256_2
 replace p256 := eq_true p256
 replace q256 := eq_true q256
 refine start_ (n := 10) (S := fun w' => w'.cell? ⟨gb251, 0, none⟩ = some (.slice (some ad256) y248.length co28) ∧ w'.cell? ad256 = some (.string ((rd_T39 y248 0).f0)) ∧ w'.cell? ⟨ad256.block, ad256.off + 1, none⟩ = some (.bool ((rd_T39 y248 0).f1)) ∧ w'.cell? ⟨ad256.block, ad256.off + 2, none⟩ = some (.slice A256_2 ((rd_T39 y248 0).f2).length c256_2) ∧ w'.cell? ⟨ad256.block, ad256.off + 3, none⟩ = some (.int .i64 ((rd_T39 y248 0).f3)) ∧ w'.cell? ⟨ad256.block, ad256.off + 4, none⟩ = some (.int .i64 ((rd_T39 y248 0).f4)) ∧ w'.cell? ⟨ad256.block, ad256.off + 5, none⟩ = some (.int .i64 ((rd_T39 y248 0).f5)) ∧ w'.cell? ⟨ad256.block, ad256.off + 6, none⟩ = some (.string ((rd_T39 y248 0).f6)) ∧ w'.cell? ⟨ad256.block, ad256.off + 7, none⟩ = some (.int .i64 ((rd_T39 y248 0).f7)) ∧ w'.cell? ⟨ad256.block, ad256.off + 8, none⟩ = some (.int .i64 ((rd_T39 y248 0).f8))) (ds := [7, 9]) #[qf, qf, qf, qf, qf, qf, qf, qf, qf, qf] (by kernel_rfl) rfl rfl ⟨(blk_cell BK251.out 0).trans rfl, hx256_0, hx256_1, hx256_2, hx256_3, hx256_4, hx256_5, hx256_6, hx256_7, hx256_8⟩ (fun hHeld => ?_); refine with_tabW pm_awake.tab4 pm_awake.bits4 (fun HT_ HW_ => ?_)
 generalize w32.drew = w33 at HO250 BK251 HB HL256_2 HR256_2 hx256_0 hx256_1 hx256_2 hx256_3 hx256_4 hx256_5 hx256_6 hx256_7 hx256_8 hHeld ⊢
 refine pure_ (i := 0) (N := some 21) (v := ?_) (a' := ?_) #[qt, qf, qf, qf, qf, qf, qf, qf, qf, qf] rfl rfl (any_of HT_.out (by kernel_rfl)) (fun _ _ _ h => h) (Or.inl ⟨by rfl, ?_⟩) ?_ ?_
 rotate_left
 ·intro w'
  go_simp
  with_reducible rfl
 rotate_left
 ·simp only [Act.put, qsA, qsB, qsC, i64_w, i32_w, qsD, qsE]
  rfl
 refine pure_ (i := 2) (N := some 23) (v := ?_) (a' := ?_) #[qt, qf, qt, qf, qf, qf, qf, qf, qf, qf] rfl rfl (any_of HT_.out (by kernel_rfl)) (fun _ _ _ h => h) (Or.inl ⟨by rfl, ?_⟩) ?_ ?_
 rotate_left
 ·intro w'
  go_simp
  with_reducible rfl
 rotate_left
 ·simp only [Act.put, qsA, qsB, qsC, i64_w, i32_w, qsD, qsE]
  rfl
 refine take_ (i := 1) (N := some 22) (v := ?_) (a' := ?_) #[qt, qt, qt, qf, qf, qf, qf, qf, qf, qf] rfl rfl (take_ofW HT_.out HW_.out (by kernel_rfl)) (fun _ _ _ h => h) (Or.inl ⟨by rfl, ?_⟩) hHeld ?_ ?_
 rotate_left
 ·rintro w' ⟨s0, s1, s2, s3, s4, s5, s6, s7, s8, s9⟩
  go_simp
  with_reducible rfl
 rotate_left
 ·simp only [Act.put, qsA, qsB, qsC, i64_w, i32_w, qsD, qsE]
  rfl
 refine take_ (i := 3) (N := some 24) (v := ?_) (a' := ?_) #[qt, qt, qt, qt, qf, qf, qf, qf, qf, qf] rfl rfl (take_ofW HT_.out HW_.out (by kernel_rfl)) (fun _ _ _ h => h) (Or.inl ⟨by rfl, ?_⟩) hHeld ?_ ?_
 rotate_left
 ·rintro w' ⟨s0, s1, s2, s3, s4, s5, s6, s7, s8, s9⟩
  go_simp
  with_reducible rfl
 rotate_left
 ·simp only [Act.put, qsA, qsB, qsC, i64_w, i32_w, qsD, qsE]
  rfl
 refine pure_ (i := 4) (N := some 25) (v := ?_) (a' := ?_) #[qt, qt, qt, qt, qt, qf, qf, qf, qf, qf] rfl rfl (any_of HT_.out (by kernel_rfl)) (fun _ _ _ h => h) (Or.inl ⟨by rfl, ?_⟩) ?_ ?_
 rotate_left
 ·intro w'
  go_simp
  with_reducible rfl
 rotate_left
 ·simp only [Act.put, qsA, qsB, qsC, i64_w, i32_w, qsD, qsE]
  rfl
 refine take_ (i := 5) (N := some 26) (v := ?_) (a' := ?_) #[qt, qt, qt, qt, qt, qt, qf, qf, qf, qf] rfl rfl (take_ofW HT_.out HW_.out (by kernel_rfl)) (fun _ _ _ h => h) (Or.inl ⟨by rfl, ?_⟩) hHeld ?_ ?_
 rotate_left
 ·rintro w' ⟨s0, s1, s2, s3, s4, s5, s6, s7, s8, s9⟩
  go_simp
  with_reducible rfl
 rotate_left
 ·simp only [Act.put, qsA, qsB, qsC, i64_w, i32_w, qsD, qsE]
  rfl
 refine one_ (i := 6) (N := some 27) #[qt, qt, qt, qt, qt, qt, qt, qf, qf, qf] rfl rfl (one_of HT_.out (by kernel_rfl)) (by decide) (fun K hK => ?_)
 refine value_ (w1 := ?_) (v := ?_) (by rfl) rfl ?_ ?_
 rotate_left 2
 ·go_simp
  constructor
  ·rfl
  ·rfl
 refine hK.out _ _ ⟨(blk_cell (qkC BK251.out _) 0).trans rfl, (World.cell?_alloc_lt _ _ _ (qbl _ _ (hHeld.2.1))).trans (hHeld.2.1), (World.cell?_alloc_lt _ _ _ (qbl _ _ (hHeld.2.2.1))).trans (hHeld.2.2.1), (World.cell?_alloc_lt _ _ _ (qbl _ _ (hHeld.2.2.2.1))).trans (hHeld.2.2.2.1), (World.cell?_alloc_lt _ _ _ (qbl _ _ (hHeld.2.2.2.2.1))).trans (hHeld.2.2.2.2.1), (World.cell?_alloc_lt _ _ _ (qbl _ _ (hHeld.2.2.2.2.2.1))).trans (hHeld.2.2.2.2.2.1), (World.cell?_alloc_lt _ _ _ (qbl _ _ (hHeld.2.2.2.2.2.2.1))).trans (hHeld.2.2.2.2.2.2.1), (World.cell?_alloc_lt _ _ _ (qbl _ _ (hHeld.2.2.2.2.2.2.2.1))).trans (hHeld.2.2.2.2.2.2.2.1), (World.cell?_alloc_lt _ _ _ (qbl _ _ (hHeld.2.2.2.2.2.2.2.2.1))).trans (hHeld.2.2.2.2.2.2.2.2.1), (World.cell?_alloc_lt _ _ _ (qbl _ _ (hHeld.2.2.2.2.2.2.2.2.2))).trans (hHeld.2.2.2.2.2.2.2.2.2)⟩ (fun hHeld => ?_)
 clear hK K
 refine norm_ (a' := ?_) ?_ ?_
 rotate_left
 ·show Act.put _ (some 27) _ = _
  simp only [Act.put, qsA, qsB, qsC, i64_w, i32_w, qsD, qsE]
  rfl
 refine last_ (i := 7) (N := some 28) #[qt, qt, qt, qt, qt, qt, qt, qt, qf, qf] rfl rfl (one_of HT_.out (by kernel_rfl)) (by decide) (fun K hK => ?_)
 refine Kd.N_append_step k39 (w0 := w) w.heap.size (by rfl) (.tmp 22) (.tmp 27) 22 39 (.agg #[(.string ⟨#[]⟩), (.bool false), (.slice none 0 0), (.int .i64 0), (.int .i64 0), (.int .i64 0), (.string ⟨#[]⟩), (.int .i64 0), (.int .i64 0)]) 104 rfl Tryd.underlying22 info39 rfl (by decide) (by omega) (.slice (some ad256) y248.length co28) y248 (⟨(rd_T39 y248 0).f0, (rd_T39 y248 0).f1, (rd_T39 y248 0).f2, (rd_T39 y248 0).f3, (rd_T39 y248 0).f4, (rd_T39 y248 0).f5, (rd_T39 y248 0).f6, (rd_T39 y248 0).f7, (rd_T39 y248 0).f8⟩ : S39) [.string ((rd_T39 y248 0).f0), .bool ((rd_T39 y248 0).f1), .slice A256_2 ((rd_T39 y248 0).f2).length c256_2, .int .i64 ((rd_T39 y248 0).f3), .int .i64 ((rd_T39 y248 0).f4), .int .i64 ((rd_T39 y248 0).f5), .string ((rd_T39 y248 0).f6), .int .i64 ((rd_T39 y248 0).f7), .int .i64 ((rd_T39 y248 0).f8)] (fun k_ => k_ ≠ gb251) (fun k_ => ((fun k_ => k_ ≠ gb251)) k_ ∧ some k_ ≠ (.slice (some ad256) y248.length co28 : Value).ownBlock) rfl rfl ?aP (fun _ hk => hk) ?aF ?aO ?aB ?aS ?aL ?_
 (case aP => exact (k39_mkF _ _ (⟨(rd_T39 y248 0).f0, (rd_T39 y248 0).f1, (rd_T39 y248 0).f2, (rd_T39 y248 0).f3, (rd_T39 y248 0).f4, (rd_T39 y248 0).f5, (rd_T39 y248 0).f6, (rd_T39 y248 0).f7, (rd_T39 y248 0).f8⟩ : S39) (Kd.V_reads' (Kd.V_mono (ok' := (fun k_ => ((fun k_ => k_ ≠ gb251)) k_ ∧ some k_ ≠ (.slice (some ad256) y248.length co28 : Value).ownBlock)) (HL256_2.out) (fun k_ hk => ⟨hk.1.2, hk.2⟩))).2.1 (Kd.V_F (Kd.V_mono (ok' := (fun k_ => ((fun k_ => k_ ≠ gb251)) k_ ∧ some k_ ≠ (.slice (some ad256) y248.length co28 : Value).ownBlock)) (HL256_2.out) (fun k_ hk => ⟨hk.1.2, hk.2⟩)))))
 (case aB => exact (by repeat (first | (with_reducible first | exact HB.out | apply qbA | apply qbB | apply qbC | refine below_set ?_ GE251.out) | exact HB.out)))
 (case aF => exact (fun k_ hk => Kd.freshB (g := gb251) (o := .cells #[.slice (some ad256) y248.length co28] 24 (0, 0)) (by (with_reducible repeat (first | refine qkA ?_ _ | refine qkB ?_ | refine qkC ?_ _)); exact BK251.out) k_ hk))
 (case aO => exact (by (with_reducible repeat (first | apply Kd.N_alloc | apply Kd.N_drewN | apply Kd.N_drew)); exact Kd.N_mono HO250.out (fun _ hk => hk.2)))
 (case aS => exact (below_size (by repeat (first | (with_reducible first | exact HB.out | apply qbA | apply qbB | apply qbC | refine below_set ?_ GE251.out) | exact HB.out))))
 (case aL => have := LMc5.out; omega)
 intro v258 w34 ho hb hg hat
 rw [← Ny257.out] at ho
 have n0_ := qas (blk_grown (g := gb251) (o := .cells #[.slice (some ad256) y248.length co28] 24 (0, 0)) (by (with_reducible repeat (first | refine qkA ?_ _ | refine qkB ?_ | refine qkC ?_ _)); exact BK251.out) hg (Kd.N_ne HO250.out BK251.out (by decide)))
 have n1_ := qas (Kd.V_afterv (ok := (fun k_ => k_ ≠ gb251)) (by (with_reducible repeat (first | apply Kd.V_alloc | apply Kd.V_drewN | apply Kd.V_drew)); exact Kd.V_mono HL256_2.out (fun _ hk => ⟨hk.1.2, hk.2⟩)) hg hat)
 have n2_ := qas (hb)
 have n3_ := qas (ho)
 clear BK251
 clear HL256_2
 clear HB
 clear HO250
 have BK251 := n0_
 have HL256_2 := n1_
 have HB := n2_
 have HO259 := n3_
 clear n0_ n1_ n2_ n3_
 clear ho hb hg hat
 obtain ⟨Ao35, co35, eo35⟩ := Kd.N_slice HO259.out
 (first | subst eo35 | (injection eo35 with f1_ f2_ f3_; have f4_ := f1_.symm; have f5_ := f3_.symm; clear f1_ f2_ f3_; subst f4_; subst f5_))
 refine hK.out _ _ ?_
 clear hK K
 refine norm_ (a' := ?_) ?_ ?_
 rotate_left
 ·show Act.put _ (some 28) _ = _
  simp only [Act.put, qsA, qsB, qsC, i64_w, i32_w, qsD, qsE]
  rfl
 refine pure_ (i := 8) (N := some 29) (v := ?_) (a' := ?_) #[qt, qt, qt, qt, qt, qt, qt, qt, qt, qf] rfl rfl (any_of HT_.out (by kernel_rfl)) (fun _ _ _ h => h) (Or.inl ⟨by rfl, ?_⟩) ?_ ?_
 rotate_left
 ·intro w'
  go_simp
  with_reducible rfl
 rotate_left
 ·simp only [Act.put, qsA, qsB, qsC, i64_w, i32_w, qsD, qsE]
  rfl
 refine last_ (i := 9) (N := none) #[qt, qt, qt, qt, qt, qt, qt, qt, qt, qt] rfl rfl (one_of HT_.out (by kernel_rfl)) (by decide) (fun K hK => ?_)
 have hs36 : w34.cell? ⟨gb251, 0, none⟩ = some (.slice (some ad256) y248.length co28) := (blk_cell BK251.out 0).trans rfl
 have hfs36 := blk_frozen BK251.out 0
 refine skip_ (w1 := ?_) (by rfl) rfl ?_ ?_
 rotate_left
 ·go_simp
  rfl
 refine hK.out _ _ ?_
 clear hK K
 refine done_ (done_of HT_.out (by kernel_rfl)) ?_
 have hcz37_0 : w34.cell? ⟨gb251, 0, none⟩ = some (.slice (some ad256) y248.length co28) := (blk_cell BK251.out 0).trans rfl
 have hfz37_0 := blk_frozen BK251.out 0
 try go_wp2_with (first | ((with_reducible refine gate_callee (f := 17) rfl ?_); refine goesL_ (some 32) rfl rfl Tryd.func17 (by kernel_rfl) rfl #[.agg #[.slice Ao35 y257.length co35]] rfl (by (try simp only [List.map_toArray, List.map_cons, List.map_nil]); first | done | rfl | (simp only [List.length_drop, List.length_take]; rfl)) ?_; (with_reducible refine (zipput_Put.calls _ _ y257 t260 t261 _ ?side1 ?side2 A6.out).mono ?_); (case side1 => refine (Kd.N_reads' (e := 39) (base := w.heap.size) (ok := fun k_ => k_ ≠ gb251) (n := y257.length) (c := co35) ?_).2.2; exact (by (with_reducible repeat (first | apply Kd.N_alloc | apply Kd.N_drewN | apply Kd.N_drew)); exact (Kd.N_mono (Kd.N_far (p := ⟨gb251, 0, none⟩) (Kd.N_mono HO259.out (fun k_ hk => (⟨hk, hk⟩ : _ ∧ k_ ≠ gb251))) (fun _ hk => hk.2) (.slice Ao35 y257.length co35)) (fun _ h_ => h_.1)))); (case side2 => exact (Kd.N_reads' HO259.out).2.1); rintro e w38 ⟨rfl, hb⟩; refine ⟨_, rfl, ?_⟩; have n0_ := qas (Kd.V_below (by (with_reducible repeat (first | apply Kd.V_alloc | apply Kd.V_drewN | apply Kd.V_drew)); exact (Kd.V_mono (Kd.V_far (p := ⟨gb251, 0, none⟩) (Kd.V_mono HL256_2.out (fun k_ hk => (⟨hk, hk.1⟩ : _ ∧ k_ ≠ gb251))) (fun _ hk => hk.2) (.slice Ao35 y257.length co35)) (fun _ h_ => h_.1))) hb); have n1_ := qas (Kd.N_below (by (with_reducible repeat (first | apply Kd.N_alloc | apply Kd.N_drewN | apply Kd.N_drew)); exact (Kd.N_mono (Kd.N_far (p := ⟨gb251, 0, none⟩) (Kd.N_mono HO259.out (fun k_ hk => (⟨hk, hk⟩ : _ ∧ k_ ≠ gb251))) (fun _ hk => hk.2) (.slice Ao35 y257.length co35)) (fun _ h_ => h_.1))) hb); have n2_ := qas (blk_below (g := gb251) (o := .cells #[.slice Ao35 y257.length co35] 24 (0, 0)) (by (with_reducible repeat (first | refine qkA ?_ _ | refine qkB ?_ | refine qkC ?_ _)); refine blk_put (cs := #[.slice (some ad256) y248.length co28]) ?_ 0 _ rfl; (with_reducible repeat (first | refine qkA ?_ _ | refine qkB ?_ | refine qkC ?_ _)); exact BK251.out) hb); have n3_ := qas (below_step (by repeat (first | (with_reducible first | exact HB.out | apply qbA | apply qbB | apply qbC | refine below_set ?_ GE251.out) | exact HB.out)) hb); clear HL256_2; clear HO259; clear BK251; clear HB; have HL256_2 := n0_; have HO259 := n1_; have BK251 := n2_; have HB := n3_; clear n0_ n1_ n2_ n3_; (try clear hb); (try clear hb2); (try clear hk); (try clear hi)) | (go_at_call 19; (with_reducible refine (pl_Num.calls t253 t262 _ A11.out).mono ?_); rintro e w' ⟨rfl, ⟨nd, rfl⟩⟩; have hcz39_0 : w38.cell? ⟨gb251, 0, none⟩ = some (.slice Ao35 y257.length co35) := (blk_cell BK251.out 0).trans rfl; have hfz39_0 := blk_frozen BK251.out 0; have q40 : (1 : Int) ≤ ((y257.length : Int) : Int) := qde (by first | (with_reducible assumption) | assumption); obtain ⟨i040, hi040, _, hsz40, _⟩ := info_parts info39; have hroom40 : y257.length ≤ co35 := (Kd.N_reads' HO259.out).2.1; have hC40 : Kd.F k39 _ _ Ao35 y257.length y257 := (Kd.V_at (base := w.heap.size) (Kd.N_V HO259.out)).2.2; have hcut40 := cut_to (P := Tryd.prog) 22 39 .i64 Tryd.underlying22 hi040 Ao35 y257.length co35 1 (by omega) q40 hroom40; have hr40 := Kd.F_take (m := 1) hC40 (by omega); have hy40 : y263.length = (1 : Int).toNat := (by rw [Ny263.out, List.length_take]; omega); rw [← Ny263.out] at hr40; rw [← hy40] at hcut40; have HO267 := qas (show Kd.V k39 39 _ w.heap.size _ (.slice Ao35 y263.length co35) y263 from Kd.V_mk (by omega) hr40); have HC267 := qas (show y263.length ≤ co35 from by omega); clear hr40 hC40 hroom40 hi040 hsz40; have KY40 := qas hy40; clear hy40; replace q40 := eq_true q40) | (go_at_call 20; (with_reducible refine (zipput_Size.calls _ _ y263 t268 _ ?side1 ?side2 A14.out).mono ?_); (case side1 => repeat (first | exact (Kd.V_reads' HO267.out).2.2 | (with_reducible refine Kd.C_alloc ?_ _) | (with_reducible refine Kd.C_drewN ?_ _) | (with_reducible refine Kd.C_drew ?_))); (case side2 => exact (Kd.V_reads' HO267.out).2.1); rintro e w41 ⟨rfl, hb⟩; have n0_ := qas (Kd.V_below (by (with_reducible repeat (first | apply Kd.V_alloc | apply Kd.V_drewN | apply Kd.V_drew)); exact HL256_2.out) hb); have n1_ := qas (Kd.N_below (by (with_reducible repeat (first | apply Kd.N_alloc | apply Kd.N_drewN | apply Kd.N_drew)); exact HO259.out) hb); have n2_ := qas (Kd.V_below (by (with_reducible repeat (first | apply Kd.V_alloc | apply Kd.V_drewN | apply Kd.V_drew)); exact HO267.out) hb); have n3_ := qas (blk_below (g := gb251) (o := .cells #[.slice Ao35 y257.length co35] 24 (0, 0)) (by (with_reducible repeat (first | refine qkA ?_ _ | refine qkB ?_ | refine qkC ?_ _)); exact BK251.out) hb); have n4_ := qas (below_step (by repeat (first | (with_reducible first | exact HB.out | apply qbA | apply qbB | apply qbC | refine below_set ?_ GE251.out) | exact HB.out)) hb); clear HL256_2; clear HO259; clear HO267; clear BK251; clear HB; have HL256_2 := n0_; have HO259 := n1_; have HO267 := n2_; have BK251 := n3_; have HB := n4_; clear n0_ n1_ n2_ n3_ n4_; (try clear hb); (try clear hb2); (try clear hk); (try clear hi)) | (go_at_call 19; (with_reducible refine (pl_Num.calls t255 t269 _ A17.out).mono ?_); rintro e w' ⟨rfl, ⟨nd, rfl⟩⟩) | (go_at_call 19; (with_reducible refine (pl_Num.calls t261 t270 _ A19.out).mono ?_); rintro e w' ⟨rfl, ⟨nd, rfl⟩⟩) | (go_at_call 22; (with_reducible show Calls _ _ #[.agg #[.slice none 0 0]] _ _); (refine (zipput_May.calls _ _ ([] : List (S39)) true _ ?side1 ?side2 A21.out).mono ?_); (case side1 => exact Kd.C_nil _ _); (case side2 => exact Nat.le_refl _); rintro e w42 ⟨rfl, hb⟩; have n0_ := qas (Kd.V_below (by (with_reducible repeat (first | apply Kd.V_alloc | apply Kd.V_drewN | apply Kd.V_drew)); exact HL256_2.out) hb); have n1_ := qas (Kd.N_below (by (with_reducible repeat (first | apply Kd.N_alloc | apply Kd.N_drewN | apply Kd.N_drew)); exact HO259.out) hb); have n2_ := qas (Kd.V_below (by (with_reducible repeat (first | apply Kd.V_alloc | apply Kd.V_drewN | apply Kd.V_drew)); exact HO267.out) hb); have n3_ := qas (blk_below (g := gb251) (o := .cells #[.slice Ao35 y257.length co35] 24 (0, 0)) (by (with_reducible repeat (first | refine qkA ?_ _ | refine qkB ?_ | refine qkC ?_ _)); exact BK251.out) hb); have n4_ := qas (below_step (by repeat (first | (with_reducible first | exact HB.out | apply qbA | apply qbB | apply qbC | refine below_set ?_ GE251.out) | exact HB.out)) hb); clear HL256_2; clear HO259; clear HO267; clear BK251; clear HB; have HL256_2 := n0_; have HO259 := n1_; have HO267 := n2_; have BK251 := n3_; have HB := n4_; clear n0_ n1_ n2_ n3_ n4_; (try clear hb); (try clear hb2); (try clear hk); (try clear hi); have hcz43_0 : w42.cell? ⟨gb251, 0, none⟩ = some (.slice Ao35 y257.length co35) := (blk_cell BK251.out 0).trans rfl; have hfz43_0 := blk_frozen BK251.out 0) | (go_at_call 22; (with_reducible refine (zipput_May.calls _ _ y257 t272 _ ?side1 ?side2 A23.out).mono ?_); (case side1 => repeat (first | exact (Kd.N_reads' HO259.out).2.2 | (with_reducible refine Kd.C_alloc ?_ _) | (with_reducible refine Kd.C_drewN ?_ _) | (with_reducible refine Kd.C_drew ?_))); (case side2 => exact (Kd.N_reads' HO259.out).2.1); rintro e w44 ⟨rfl, hb⟩; have n0_ := qas (Kd.V_below (by (with_reducible repeat (first | apply Kd.V_alloc | apply Kd.V_drewN | apply Kd.V_drew)); exact HL256_2.out) hb); have n1_ := qas (Kd.N_below (by (with_reducible repeat (first | apply Kd.N_alloc | apply Kd.N_drewN | apply Kd.N_drew)); exact HO259.out) hb); have n2_ := qas (Kd.V_below (by (with_reducible repeat (first | apply Kd.V_alloc | apply Kd.V_drewN | apply Kd.V_drew)); exact HO267.out) hb); have n3_ := qas (blk_below (g := gb251) (o := .cells #[.slice Ao35 y257.length co35] 24 (0, 0)) (by (with_reducible repeat (first | refine qkA ?_ _ | refine qkB ?_ | refine qkC ?_ _)); exact BK251.out) hb); have n4_ := qas (below_step (by repeat (first | (with_reducible first | exact HB.out | apply qbA | apply qbB | apply qbC | refine below_set ?_ GE251.out) | exact HB.out)) hb); clear HL256_2; clear HO259; clear HO267; clear BK251; clear HB; have HL256_2 := n0_; have HO259 := n1_; have HO267 := n2_; have BK251 := n3_; have HB := n4_; clear n0_ n1_ n2_ n3_ n4_; (try clear hb); (try clear hb2); (try clear hk); (try clear hi)))
 go_ret
 exact ⟨by first | rfl | (simp [errW_none, errW_some] <;> rfl) | (simp [*, errW_none, errW_some] <;> rfl), by repeat (first | (with_reducible first | exact HB.out | apply qbA | apply qbB | apply qbC | refine below_set ?_ GE251.out) | exact HB.out)⟩

attribute [local go_sem] max2_int min2_int max_two min_two max_three min_three max_four min_four   -- for this text's walks alone
set_option linter.unusedVariables false
set_option linter.unusedSimpArgs false

/-! ### pm_Zips: function 3 -/
def pm_Zips.f (k : Nat) (l0_0 : List (S39)) : Option (Bool) := (pl_CopyFolder.f k l0_0).bind fun t274 => ((zipput_Put.f t274).bind fun bt278 => ((pr_PutZip.f k l0_0).bind fun bt280 => (if bt278.1.toList = bt280.1.toList then ((pl_Num.f bt278.2).bind fun t282 => (if t282 = bt280.2 then ((zipput_Size.f t274).bind fun t283 => ((pr_Size.f k l0_0).bind fun t284 => (if t283 = t284 then ((zipput_May.f t274).bind fun t285 => ((pr_WriteMay.f k l0_0).bind fun t286 => (if (t285 == t286) = true then ((pl_SameFolder.f k t274 l0_0).bind fun t287 => (if t287 = true then ((pm_awake.f k).bind fun t288 => (some t288)) else (none))) else (none)))) else (none)))) else (none))) else (none))))
theorem pm_Zips.mono : ∀ a0 k, LeO (pm_Zips.f k a0) (pm_Zips.f (k + 1) a0) := by
 intro a0 k
 unfold pm_Zips.f
 repeat' first
   | (with_reducible exact pl_CopyFolder.mono _ _)
   | (with_reducible exact pl_SameFolder.mono _ _ _)
   | (with_reducible exact pm_awake.mono _)
   | (with_reducible exact pr_PutZip.mono _ _)
   | (with_reducible exact pr_Size.mono _ _)
   | (with_reducible exact pr_WriteMay.mono _ _)
   | (with_reducible exact LeO.refl _)
   | (with_reducible exact LeO.none _)
   | (with_reducible refine LeO.ite ?_ ?_)
   | (with_reducible refine LeO.bind ?_ (fun _ => ?_))
   | exact pl_CopyFolder.mono _ _
   | exact pl_SameFolder.mono _ _ _
   | exact pm_awake.mono _
   | exact pr_PutZip.mono _ _
   | exact pr_Size.mono _ _
   | exact pr_WriteMay.mono _ _
   | exact LeO.none _
   | refine LeO.ite ?_ ?_
   | refine LeO.bind ?_ (fun _ => ?_)
def pm_Zips.T4 : Bool × List (List Nat × List Nat) := (true, [([], []), ([], []), ([0, 1], [0, 1]), ([2], [2]), ([3], [3]), ([4, 3, 3], [3, 4]), ([3], [3]), ([5, 6, 3], [3, 5, 6]), ([3, 7], [3, 7]), ([8, 5], [8]), ([9], [9]), ([10, 9, 9], [9, 10]), ([9], [9]), ([12, 11, 9], [9, 12]), ([11, 13, 9], [9, 11, 13]), ([9, 14], [9, 14]), ([15, 13], [15]), ([16], [16]), ([17, 16, 16], [16, 17]), ([16], [16]), ([19, 18, 16], [16, 19]), ([18, 20, 16], [16, 18, 20]), ([16, 21], [16, 21]), ([22, 20], [22]), ([23], [23]), ([23], [23]), ([24, 25, 23, 23], [23, 24, 25]), ([23, 26], [23, 26]), ([27, 26], [27]), ([28, 28], [28]), ([28, 29], [28, 29]), ([30, 29, 0, 1, 2, 3, 4, 5, 6, 7, 8, 9, 10, 11, 12, 13, 14, 15, 16, 17, 18, 19, 20, 21, 22, 23, 24, 25, 26, 27, 28, 29, 30], [30])])
def pm_Zips.B4 : List Nat := [0, 0, 3, 7, 15, 31, 15, 127, 255, 511, 1023, 2047, 1023, 8191, 16383, 32767, 65535, 131071, 262143, 131071, 1048575, 2097151, 4194303, 8388607, 16777215, 16777215, 67108863, 134217727, 268435455, 536870911, 1073741823, 2147483647]
theorem pm_Zips.tab4 : rtab .any (opsOf Tryd.f3 4) = pm_Zips.T4 := by kernel_rfl
theorem pm_Zips.bits4 : waitsOk pm_Zips.T4.2 pm_Zips.B4 = true := by kernel_rfl
set_option maxHeartbeats 8000000 in
set_option maxRecDepth 100000 in
theorem pm_Zips.calls (k : Nat) (A0_0 : Option Addr) (c0_0 : Nat) (l0_0 : List (S39)) (r : Bool) (w : World) (hr0_0 : Kd.C k39 w A0_0 l0_0.length l0_0) (hc0_0 : l0_0.length ≤ c0_0) (h : pm_Zips.f k l0_0 = some r) :
  Calls Tryd.prog 3 #[.agg #[.slice A0_0 l0_0.length c0_0]] w fun e w' => e = .returned (.bool r) ∧ Below w.heap.size w w' := by
 have hu24 := Tryd.underlying24
 have HR0_0 := qas hr0_0
 have HC0_0 := qas hc0_0
 clear hr0_0 hc0_0
 have HB := qas (Below.refl w.heap.size w)
 have H : ((pl_CopyFolder.f k l0_0).bind fun t274 => ((zipput_Put.f t274).bind fun bt278 => ((pr_PutZip.f k l0_0).bind fun bt280 => (if bt278.1.toList = bt280.1.toList then ((pl_Num.f bt278.2).bind fun t282 => (if t282 = bt280.2 then ((zipput_Size.f t274).bind fun t283 => ((pr_Size.f k l0_0).bind fun t284 => (if t283 = t284 then ((zipput_May.f t274).bind fun t285 => ((pr_WriteMay.f k l0_0).bind fun t286 => (if (t285 == t286) = true then ((pl_SameFolder.f k t274 l0_0).bind fun t287 => (if t287 = true then ((pm_awake.f k).bind fun t288 => (some t288)) else (none))) else (none)))) else (none)))) else (none))) else (none))))) = some r := h
 clear h
 replace H := Option.bind_eq_some_iff.mp H
 obtain ⟨t274, A20, H⟩ := H
 replace H : ((zipput_Put.f t274).bind fun bt278 => ((pr_PutZip.f k l0_0).bind fun bt280 => (if bt278.1.toList = bt280.1.toList then ((pl_Num.f bt278.2).bind fun t282 => (if t282 = bt280.2 then ((zipput_Size.f t274).bind fun t283 => ((pr_Size.f k l0_0).bind fun t284 => (if t283 = t284 then ((zipput_May.f t274).bind fun t285 => ((pr_WriteMay.f k l0_0).bind fun t286 => (if (t285 == t286) = true then ((pl_SameFolder.f k t274 l0_0).bind fun t287 => (if t287 = true then ((pm_awake.f k).bind fun t288 => (some t288)) else (none))) else (none)))) else (none)))) else (none))) else (none)))) = some r := H
 have A2 := qas A20
 clear A20
 replace H := Option.bind_eq_some_iff.mp H
 obtain ⟨⟨t278, t279⟩, A30, H⟩ := H
 replace H : ((pr_PutZip.f k l0_0).bind fun bt280 => (if t278.toList = bt280.1.toList then ((pl_Num.f t279).bind fun t282 => (if t282 = bt280.2 then ((zipput_Size.f t274).bind fun t283 => ((pr_Size.f k l0_0).bind fun t284 => (if t283 = t284 then ((zipput_May.f t274).bind fun t285 => ((pr_WriteMay.f k l0_0).bind fun t286 => (if (t285 == t286) = true then ((pl_SameFolder.f k t274 l0_0).bind fun t287 => (if t287 = true then ((pm_awake.f k).bind fun t288 => (some t288)) else (none))) else (none)))) else (none)))) else (none))) else (none))) = some r := H
 have A3 := qas A30
 clear A30
 replace H := Option.bind_eq_some_iff.mp H
 obtain ⟨⟨t280, t281⟩, A40, H⟩ := H
 replace H : (if t278.toList = t280.toList then ((pl_Num.f t279).bind fun t282 => (if t282 = t281 then ((zipput_Size.f t274).bind fun t283 => ((pr_Size.f k l0_0).bind fun t284 => (if t283 = t284 then ((zipput_May.f t274).bind fun t285 => ((pr_WriteMay.f k l0_0).bind fun t286 => (if (t285 == t286) = true then ((pl_SameFolder.f k t274 l0_0).bind fun t287 => (if t287 = true then ((pm_awake.f k).bind fun t288 => (some t288)) else (none))) else (none)))) else (none)))) else (none))) else (none)) = some r := H
 have A4 := qas A40
 clear A40
 by_cases c5 : t278.toList = t280.toList
 rotate_left
 ·rw [if_neg c5] at H
  have c5b0 : (t278.toList == t280.toList) = false := beq_eq_false_iff_ne.mpr c5
  have c5b1 : (t278.toList != t280.toList) = true := bne_iff_ne.mpr c5
  exact absurd H (by simp)
 rw [if_pos c5] at H
 have c5b0 : (t278.toList == t280.toList) = true := beq_iff_eq.mpr c5
 have c5b1 : (t278.toList != t280.toList) = false := bne_eq_false_iff_eq.mpr c5
 clear c5
 replace H := Option.bind_eq_some_iff.mp H
 obtain ⟨t282, A60, H⟩ := H
 replace H : (if t282 = t281 then ((zipput_Size.f t274).bind fun t283 => ((pr_Size.f k l0_0).bind fun t284 => (if t283 = t284 then ((zipput_May.f t274).bind fun t285 => ((pr_WriteMay.f k l0_0).bind fun t286 => (if (t285 == t286) = true then ((pl_SameFolder.f k t274 l0_0).bind fun t287 => (if t287 = true then ((pm_awake.f k).bind fun t288 => (some t288)) else (none))) else (none)))) else (none)))) else (none)) = some r := H
 have A6 := qas A60
 clear A60
 by_cases c7 : t282 = t281
 rotate_left
 ·rw [if_neg c7] at H
  have c7b0 : (t282 == t281) = false := beq_eq_false_iff_ne.mpr c7
  have c7b1 : (t282 != t281) = true := bne_iff_ne.mpr c7
  exact absurd H (by simp)
 rw [if_pos c7] at H
 have c7b0 : (t282 == t281) = true := beq_iff_eq.mpr c7
 have c7b1 : (t282 != t281) = false := bne_eq_false_iff_eq.mpr c7
 clear c7
 replace H := Option.bind_eq_some_iff.mp H
 obtain ⟨t283, A80, H⟩ := H
 replace H : ((pr_Size.f k l0_0).bind fun t284 => (if t283 = t284 then ((zipput_May.f t274).bind fun t285 => ((pr_WriteMay.f k l0_0).bind fun t286 => (if (t285 == t286) = true then ((pl_SameFolder.f k t274 l0_0).bind fun t287 => (if t287 = true then ((pm_awake.f k).bind fun t288 => (some t288)) else (none))) else (none)))) else (none))) = some r := H
 have A8 := qas A80
 clear A80
 replace H := Option.bind_eq_some_iff.mp H
 obtain ⟨t284, A90, H⟩ := H
 replace H : (if t283 = t284 then ((zipput_May.f t274).bind fun t285 => ((pr_WriteMay.f k l0_0).bind fun t286 => (if (t285 == t286) = true then ((pl_SameFolder.f k t274 l0_0).bind fun t287 => (if t287 = true then ((pm_awake.f k).bind fun t288 => (some t288)) else (none))) else (none)))) else (none)) = some r := H
 have A9 := qas A90
 clear A90
 by_cases c10 : t283 = t284
 rotate_left
 ·rw [if_neg c10] at H
  have c10b0 : (t283 == t284) = false := beq_eq_false_iff_ne.mpr c10
  have c10b1 : (t283 != t284) = true := bne_iff_ne.mpr c10
  exact absurd H (by simp)
 rw [if_pos c10] at H
 have c10b0 : (t283 == t284) = true := beq_iff_eq.mpr c10
 have c10b1 : (t283 != t284) = false := bne_eq_false_iff_eq.mpr c10
 clear c10
 replace H := Option.bind_eq_some_iff.mp H
 obtain ⟨t285, A110, H⟩ := H
 replace H : ((pr_WriteMay.f k l0_0).bind fun t286 => (if (t285 == t286) = true then ((pl_SameFolder.f k t274 l0_0).bind fun t287 => (if t287 = true then ((pm_awake.f k).bind fun t288 => (some t288)) else (none))) else (none))) = some r := H
 have A11 := qas A110
 clear A110
 replace H := Option.bind_eq_some_iff.mp H
 obtain ⟨t286, A120, H⟩ := H
 replace H : (if (t285 == t286) = true then ((pl_SameFolder.f k t274 l0_0).bind fun t287 => (if t287 = true then ((pm_awake.f k).bind fun t288 => (some t288)) else (none))) else (none)) = some r := H
 have A12 := qas A120
 clear A120
 by_cases c13 : (t285 == t286) = true
 rotate_left
 ·rw [if_neg c13] at H
  have c13b0 : (t285 == t286) = false := by simpa using c13
  (try (have c13b1 : decide (t285 = t286) = false := by simpa using c13))
  (try (have c13b2 : (t285 == t286) = false := by simpa using c13))
  (try (have c13b3 : ¬ (t285 = t286) := by simpa using c13))
  clear c13
  exact absurd H (by simp)
 rw [if_pos c13] at H
 have c13b0 : (t285 == t286) = true := c13
 (try (have c13b1 : decide (t285 = t286) = true := by simpa using c13))
 (try (have c13b2 : (t285 == t286) = true := by simpa using c13))
 clear c13
 replace H := Option.bind_eq_some_iff.mp H
 obtain ⟨t287, A140, H⟩ := H
 replace H : (if t287 = true then ((pm_awake.f k).bind fun t288 => (some t288)) else (none)) = some r := H
 have A14 := qas A140
 clear A140
 by_cases c15 : t287 = true
 rotate_left
 ·replace c15 := Bool.eq_false_iff.mpr c15
  subst c15
  have H1 : (none) = some r := by rw [if_neg (show ¬ (false = true) by decide)] at H; exact H
  clear H
  have H := H1
  clear H1
  exact absurd H (by simp)
 subst c15
 have H1 : ((pm_awake.f k).bind fun t288 => (some t288)) = some r := by rw [if_pos rfl] at H; exact H
 clear H
 have H := H1
 clear H1
 replace H := Option.bind_eq_some_iff.mp H
 obtain ⟨t288, A160, H⟩ := H
 replace H : (some t288) = some r := H
 have A16 := qas A160
 clear A160
 obtain rfl := Option.some.inj H
 go_enter Tryd.func3, Tryd.ntmps3
 try go_wp2_with (first | ((with_reducible refine gate_dst (N := 1) rfl ?_); refine box_event ?hg (N := 1) ?hd (cs := #[.slice A0_0 l0_0.length c0_0]) (t := 24) ?hr ?_; (case hd => rfl); (case hg => rfl); (case hr => first | (go_simp; done) | (go_simp; rfl)); intro gb273 hg w17 hbox hb; have n0_ := qas (below_step (by repeat (first | (with_reducible first | exact HB.out | apply qbA | apply qbB | apply qbC) | exact HB.out)) hb); have n1_ := qas (hbox); have n2_ := qas ((by rw [hg]; exact (below_size (by repeat (first | (with_reducible first | exact HB.out | apply qbA | apply qbB | apply qbC) | exact HB.out))) : w.heap.size ≤ gb273)); have n3_ := qas ((by rw [hg]; exact (below_size (by repeat (first | (with_reducible first | exact HB.out | apply qbA | apply qbB | apply qbC) | exact HB.out))) : w.heap.size ≤ gb273)); clear HB; have HB := n0_; have BK273 := n1_; have GW273 := n2_; have GE273 := n3_; clear n0_ n1_ n2_ n3_; clear hb hbox hg; have hcz18_0 : w17.cell? ⟨gb273, 0, none⟩ = some (.slice A0_0 l0_0.length c0_0) := (blk_cell BK273.out 0).trans rfl; have hfz18_0 := blk_frozen BK273.out 0) | ((with_reducible refine gate_callee (f := 16) rfl ?_); refine goesL_ (some 9) rfl rfl Tryd.func16 (by kernel_rfl) rfl #[.agg #[.slice A0_0 l0_0.length c0_0]] rfl (by (try simp only [List.map_toArray, List.map_cons, List.map_nil]); first | done | rfl | (simp only [List.length_drop, List.length_take]; rfl)) ?_; (with_reducible refine (pl_CopyFolder.calls k _ _ l0_0 t274 _ ?side1 ?side2 A2.out).mono ?_); (case side1 => repeat (first | exact (Kd.C_below HR0_0.out HB.out) | (with_reducible refine Kd.C_alloc ?_ _) | (with_reducible refine Kd.C_drewN ?_ _) | (with_reducible refine Kd.C_drew ?_))); (case side2 => exact HC0_0.out); rintro e w19 ⟨v275, rfl, ho0, hb⟩; refine ⟨_, rfl, ?_⟩; have n0_ := qas (Kd.S_lower ho0 (below_size (by repeat (first | (with_reducible first | exact HB.out | apply qbA | apply qbB | apply qbC | refine below_set ?_ GE273.out) | exact HB.out)))); have n1_ := qas (blk_below (g := gb273) (o := .cells #[.slice A0_0 l0_0.length c0_0] 24 (0, 0)) (by (with_reducible repeat (first | refine qkA ?_ _ | refine qkB ?_ | refine qkC ?_ _)); exact BK273.out) hb); have n2_ := qas (below_step (by repeat (first | (with_reducible first | exact HB.out | apply qbA | apply qbB | apply qbC | refine below_set ?_ GE273.out) | exact HB.out)) hb); clear BK273; clear HB; have HO276 := n0_; have BK273 := n1_; have HB := n2_; clear n0_ n1_ n2_; (try clear hb); (try clear hb2); (try clear hk); (try clear hi); (try clear ho0)) | ((with_reducible refine gate_dst (N := 3) rfl ?_); refine box_event ?hg (N := 3) ?hd (cs := #[.slice none 0 0]) (t := 24) ?hr ?_; (case hd => rfl); (case hg => rfl); (case hr => first | (go_simp; done) | (go_simp; rfl)); intro gb277 hg w20 hbox hb; have n0_ := qas (Kd.S_below (by (with_reducible repeat (first | apply Kd.S_alloc | apply Kd.S_drewN | apply Kd.S_drew)); exact HO276.out) hb); have n1_ := qas (blk_below (g := gb273) (o := .cells #[.slice A0_0 l0_0.length c0_0] 24 (0, 0)) (by (with_reducible repeat (first | refine qkA ?_ _ | refine qkB ?_ | refine qkC ?_ _)); exact BK273.out) hb); have n2_ := qas (below_step (by repeat (first | (with_reducible first | exact HB.out | apply qbA | apply qbB | apply qbC | refine below_set ?_ GE273.out) | exact HB.out)) hb); have n3_ := qas (hbox); have n4_ := qas ((by rw [hg]; exact (below_size (by repeat (first | (with_reducible first | exact HB.out | apply qbA | apply qbB | apply qbC | refine below_set ?_ GE273.out) | exact HB.out))) : w.heap.size ≤ gb277)); have n5_ := qas ((by rw [hg]; exact (below_size (by repeat (first | (with_reducible first | exact HB.out | apply qbA | apply qbB | apply qbC | refine below_set ?_ GE273.out) | exact HB.out))) : w.heap.size ≤ gb277)); have n6_ := qas ((by rw [hg]; exact Nat.ne_of_lt (blk_lt (g := gb273) (o := .cells #[.slice A0_0 l0_0.length c0_0] 24 (0, 0)) (by (with_reducible repeat (first | refine qkA ?_ _ | refine qkB ?_ | refine qkC ?_ _)); exact BK273.out)) : gb273 ≠ gb277)); have n7_ := qas ((by rw [hg]; exact Nat.ne_of_gt (blk_lt (g := gb273) (o := .cells #[.slice A0_0 l0_0.length c0_0] 24 (0, 0)) (by (with_reducible repeat (first | refine qkA ?_ _ | refine qkB ?_ | refine qkC ?_ _)); exact BK273.out)) : gb277 ≠ gb273)); clear HO276; clear BK273; clear HB; have HO276 := n0_; have BK273 := n1_; have HB := n2_; have BK277 := n3_; have GW277 := n4_; have GE277 := n5_; have NB273_277 := n6_; have NB277_273 := n7_; clear n0_ n1_ n2_ n3_ n4_ n5_ n6_ n7_; clear hb hbox hg; obtain ⟨Ao21, co21, eo21⟩ := Kd.S_slice HO276.out; subst eo21; have hnb22 := NB277_273.out; have hnc22 := NB273_277.out; have hcz23_0 : w20.cell? ⟨gb277, 0, none⟩ = some (.slice none 0 0) := (blk_cell BK277.out 0).trans rfl; have hfz23_0 := blk_frozen BK277.out 0) | ((with_reducible refine gate_callee (f := 17) rfl ?_); refine goesL_ (some 12) rfl rfl Tryd.func17 (by kernel_rfl) rfl #[.agg #[.slice Ao21 t274.length co21]] rfl (by (try simp only [List.map_toArray, List.map_cons, List.map_nil]); first | done | rfl | (simp only [List.length_drop, List.length_take]; rfl)) ?_; (with_reducible refine (zipput_Put.calls _ _ t274 t278 t279 _ ?side1 ?side2 A3.out).mono ?_); (case side1 => refine (Kd.S_reads' (e := 39) (base := w.heap.size) (ok := fun k_ => True) (n := t274.length) (c := co21) ?_).2.2; exact (by (with_reducible repeat (first | apply Kd.S_alloc | apply Kd.S_drewN | apply Kd.S_drew)); exact (Kd.S_mono (Kd.S_far (p := ⟨gb277, 0, none⟩) (Kd.S_types HO276.out BK277.out (by decide)) (fun _ hk => hk.2) (.slice Ao21 t274.length co21)) (fun _ h_ => h_.1)))); (case side2 => exact (Kd.S_reads' HO276.out).2.1); rintro e w24 ⟨rfl, hb⟩; refine ⟨_, rfl, ?_⟩; have n0_ := qas (Kd.S_below (by (with_reducible repeat (first | apply Kd.S_alloc | apply Kd.S_drewN | apply Kd.S_drew)); exact (Kd.S_mono (Kd.S_far (p := ⟨gb277, 0, none⟩) (Kd.S_types HO276.out BK277.out (by decide)) (fun _ hk => hk.2) (.slice Ao21 t274.length co21)) (fun _ h_ => h_.1))) hb); have n1_ := qas (blk_below (g := gb273) (o := .cells #[.slice A0_0 l0_0.length c0_0] 24 (0, 0)) (by (with_reducible repeat (first | refine qkA ?_ _ | refine qkB ?_ | refine qkC ?_ _)); refine blk_far ?_ NB273_277.out _; (with_reducible repeat (first | refine qkA ?_ _ | refine qkB ?_ | refine qkC ?_ _)); exact BK273.out) hb); have n2_ := qas (blk_below (g := gb277) (o := .cells #[.slice Ao21 t274.length co21] 24 (0, 0)) (by (with_reducible repeat (first | refine qkA ?_ _ | refine qkB ?_ | refine qkC ?_ _)); refine blk_put (cs := #[.slice none 0 0]) ?_ 0 _ rfl; (with_reducible repeat (first | refine qkA ?_ _ | refine qkB ?_ | refine qkC ?_ _)); exact BK277.out) hb); have n3_ := qas (below_step (by repeat (first | (with_reducible first | exact HB.out | apply qbA | apply qbB | apply qbC | refine below_set ?_ GE273.out | refine below_set ?_ GE277.out) | exact HB.out)) hb); clear HO276; clear BK273; clear BK277; clear HB; have HO276 := n0_; have BK273 := n1_; have BK277 := n2_; have HB := n3_; clear n0_ n1_ n2_ n3_; (try clear hb); (try clear hb2); (try clear hk); (try clear hi); have hcz25_0 : w24.cell? ⟨gb273, 0, none⟩ = some (.slice A0_0 l0_0.length c0_0) := (blk_cell BK273.out 0).trans rfl; have hfz25_0 := blk_frozen BK273.out 0) | ((with_reducible refine gate_callee (f := 18) rfl ?_); refine goesL_ (some 17) rfl rfl Tryd.func18 (by kernel_rfl) rfl #[.agg #[.slice A0_0 l0_0.length c0_0]] rfl (by (try simp only [List.map_toArray, List.map_cons, List.map_nil]); first | done | rfl | (simp only [List.length_drop, List.length_take]; rfl)) ?_; (with_reducible refine (pr_PutZip.calls k _ _ l0_0 t280 t281 _ ?side1 ?side2 A4.out).mono ?_); (case side1 => repeat (first | exact (Kd.C_below HR0_0.out HB.out) | (with_reducible refine Kd.C_alloc ?_ _) | (with_reducible refine Kd.C_drewN ?_ _) | (with_reducible refine Kd.C_drew ?_))); (case side2 => exact HC0_0.out); rintro e w26 ⟨rfl, hb⟩; refine ⟨_, rfl, ?_⟩; have n0_ := qas (Kd.S_below (by (with_reducible repeat (first | apply Kd.S_alloc | apply Kd.S_drewN | apply Kd.S_drew)); exact HO276.out) hb); have n1_ := qas (blk_below (g := gb273) (o := .cells #[.slice A0_0 l0_0.length c0_0] 24 (0, 0)) (by (with_reducible repeat (first | refine qkA ?_ _ | refine qkB ?_ | refine qkC ?_ _)); exact BK273.out) hb); have n2_ := qas (blk_below (g := gb277) (o := .cells #[.slice Ao21 t274.length co21] 24 (0, 0)) (by (with_reducible repeat (first | refine qkA ?_ _ | refine qkB ?_ | refine qkC ?_ _)); exact BK277.out) hb); have n3_ := qas (below_step (by repeat (first | (with_reducible first | exact HB.out | apply qbA | apply qbB | apply qbC | refine below_set ?_ GE273.out | refine below_set ?_ GE277.out) | exact HB.out)) hb); clear HO276; clear BK273; clear BK277; clear HB; have HO276 := n0_; have BK273 := n1_; have BK277 := n2_; have HB := n3_; clear n0_ n1_ n2_ n3_; (try clear hb); (try clear hb2); (try clear hk); (try clear hi)))
 have n0_ := qas (Kd.S_drew HO276.out)
 have n1_ := qas (qkB BK273.out)
 have n2_ := qas (qkB BK277.out)
 have n3_ := qas (qbC HB.out)
 clear HO276
 clear BK273
 clear BK277
 clear HB
 have HO276 := n0_
 have BK273 := n1_
 have BK277 := n2_
 have HB := n3_
 clear n0_ n1_ n2_ n3_
 refine start_ (n := 32) (S := fun w' => w'.cell? ⟨gb277, 0, none⟩ = some (.slice Ao21 t274.length co21) ∧ w'.cell? ⟨gb273, 0, none⟩ = some (.slice A0_0 l0_0.length c0_0)) (ds := []) #[qf, qf, qf, qf, qf, qf, qf, qf, qf, qf, qf, qf, qf, qf, qf, qf, qf, qf, qf, qf, qf, qf, qf, qf, qf, qf, qf, qf, qf, qf, qf, qf] (by kernel_rfl) rfl rfl ⟨(blk_cell BK277.out 0).trans rfl, (blk_cell BK273.out 0).trans rfl⟩ (fun hHeld => ?_); refine with_tabW pm_Zips.tab4 pm_Zips.bits4 (fun HT_ HW_ => ?_)
 generalize w26.drew = w27 at HO276 BK273 BK277 HB hHeld ⊢
 refine pure_ (i := 0) (N := some 20) (v := ?_) (a' := ?_) #[qt, qf, qf, qf, qf, qf, qf, qf, qf, qf, qf, qf, qf, qf, qf, qf, qf, qf, qf, qf, qf, qf, qf, qf, qf, qf, qf, qf, qf, qf, qf, qf] rfl rfl (any_of HT_.out (by kernel_rfl)) (fun _ _ _ h => h) (Or.inl ⟨by rfl, ?_⟩) ?_ ?_
 rotate_left
 ·intro w'
  go_simp
  with_reducible rfl
 rotate_left
 ·simp only [Act.put, qsA, qsB, qsC, i64_w, i32_w, qsD, qsE]
  rfl
 refine pure_ (i := 1) (N := some 21) (v := ?_) (a' := ?_) #[qt, qt, qf, qf, qf, qf, qf, qf, qf, qf, qf, qf, qf, qf, qf, qf, qf, qf, qf, qf, qf, qf, qf, qf, qf, qf, qf, qf, qf, qf, qf, qf] rfl rfl (any_of HT_.out (by kernel_rfl)) (fun _ _ _ h => h) (Or.inl ⟨by rfl, ?_⟩) ?_ ?_
 rotate_left
 ·intro w'
  go_simp
  with_reducible rfl
 rotate_left
 ·simp only [Act.put, qsA, qsB, qsC, i64_w, i32_w, qsD, qsE]
  rfl
 refine pure_ (i := 2) (N := some 22) (v := ?_) (a' := ?_) #[qt, qt, qt, qf, qf, qf, qf, qf, qf, qf, qf, qf, qf, qf, qf, qf, qf, qf, qf, qf, qf, qf, qf, qf, qf, qf, qf, qf, qf, qf, qf, qf] rfl rfl (any_of HT_.out (by kernel_rfl)) (fun _ _ _ h => h) (Or.inl ⟨by rfl, ?_⟩) ?_ ?_
 rotate_left
 ·intro w'
  go_simp
  with_reducible rfl
 rotate_left
 ·simp only [Act.put, qsA, qsB, qsC, i64_w, i32_w, qsD, qsE]
  rfl
 refine pure_ (i := 3) (N := some 23) (v := ?_) (a' := ?_) #[qt, qt, qt, qt, qf, qf, qf, qf, qf, qf, qf, qf, qf, qf, qf, qf, qf, qf, qf, qf, qf, qf, qf, qf, qf, qf, qf, qf, qf, qf, qf, qf] rfl rfl (any_of HT_.out (by kernel_rfl)) (fun _ _ _ h => h) (Or.inl ⟨by rfl, ?_⟩) ?_ ?_
 rotate_left
 ·intro w'
  go_simp
  with_reducible rfl
 rotate_left
 ·simp only [Act.put, qsA, qsB, qsC, i64_w, i32_w, qsD, qsE]
  rfl
 refine pure_ (i := 4) (N := some 24) (v := ?_) (a' := ?_) #[qt, qt, qt, qt, qt, qf, qf, qf, qf, qf, qf, qf, qf, qf, qf, qf, qf, qf, qf, qf, qf, qf, qf, qf, qf, qf, qf, qf, qf, qf, qf, qf] rfl rfl (any_of HT_.out (by kernel_rfl)) (fun _ _ _ h => h) (Or.inl ⟨by rfl, ?_⟩) ?_ ?_
 rotate_left
 ·intro w'
  go_simp
  with_reducible rfl
 rotate_left
 ·simp only [Act.put, qsA, qsB, qsC, i64_w, i32_w, qsD, qsE]
  rfl
 refine pure_ (i := 6) (N := some 26) (v := ?_) (a' := ?_) #[qt, qt, qt, qt, qt, qf, qt, qf, qf, qf, qf, qf, qf, qf, qf, qf, qf, qf, qf, qf, qf, qf, qf, qf, qf, qf, qf, qf, qf, qf, qf, qf] rfl rfl (any_of HT_.out (by kernel_rfl)) (fun _ _ _ h => h) (Or.inl ⟨by rfl, ?_⟩) ?_ ?_
 rotate_left
 ·intro w'
  go_simp
  with_reducible rfl
 rotate_left
 ·simp only [Act.put, qsA, qsB, qsC, i64_w, i32_w, qsD, qsE]
  rfl
 refine one_ (i := 5) (N := some 25) #[qt, qt, qt, qt, qt, qt, qt, qf, qf, qf, qf, qf, qf, qf, qf, qf, qf, qf, qf, qf, qf, qf, qf, qf, qf, qf, qf, qf, qf, qf, qf, qf] rfl rfl (one_of HT_.out (by kernel_rfl)) (by decide) (fun K hK => ?_)
 refine goes_ Tryd.func19 (by kernel_rfl) rfl #[.int .i64 t279] (by rfl) rfl rfl (by (try simp only [List.map_toArray, List.map_cons, List.map_nil]); first | done | rfl | (simp only [List.length_drop, List.length_take]; rfl)) ?_
 with_reducible refine (pl_Num.calls t279 t282 _ A6.out).mono ?_
 rintro e w' ⟨rfl, ⟨nd, rfl⟩⟩
 refine ⟨_, rfl, ?_⟩
 refine hK.out _ _ ⟨(blk_cell BK277.out 0).trans rfl, (blk_cell BK273.out 0).trans rfl⟩ (fun hHeld => ?_)
 clear hK K
 refine norm_ (a' := ?_) ?_ ?_
 rotate_left
 ·show Act.put _ (some 25) _ = _
  simp only [Act.put, qsA, qsB, qsC, i64_w, i32_w, qsD, qsE]
  rfl
 refine pure_ (i := 7) (N := some 27) (v := ?_) (a' := ?_) #[qt, qt, qt, qt, qt, qt, qt, qt, qf, qf, qf, qf, qf, qf, qf, qf, qf, qf, qf, qf, qf, qf, qf, qf, qf, qf, qf, qf, qf, qf, qf, qf] rfl rfl (any_of HT_.out (by kernel_rfl)) (fun _ _ _ h => h) (Or.inl ⟨by rfl, ?_⟩) ?_ ?_
 rotate_left
 ·intro w'
  go_simp
  with_reducible rfl
 rotate_left
 ·simp only [Act.put, qsA, qsB, qsC, i64_w, i32_w, qsD, qsE]
  rfl
 refine pure_ (i := 8) (N := some 28) (v := ?_) (a' := ?_) #[qt, qt, qt, qt, qt, qt, qt, qt, qt, qf, qf, qf, qf, qf, qf, qf, qf, qf, qf, qf, qf, qf, qf, qf, qf, qf, qf, qf, qf, qf, qf, qf] rfl rfl (any_of HT_.out (by kernel_rfl)) (fun _ _ _ h => h) (Or.inl ⟨by rfl, ?_⟩) ?_ ?_
 rotate_left
 ·intro w'
  go_simp
  with_reducible rfl
 rotate_left
 ·simp only [Act.put, qsA, qsB, qsC, i64_w, i32_w, qsD, qsE]
  rfl
 refine pure_ (i := 9) (N := some 29) (v := ?_) (a' := ?_) #[qt, qt, qt, qt, qt, qt, qt, qt, qt, qt, qf, qf, qf, qf, qf, qf, qf, qf, qf, qf, qf, qf, qf, qf, qf, qf, qf, qf, qf, qf, qf, qf] rfl rfl (any_of HT_.out (by kernel_rfl)) (fun _ _ _ h => h) (Or.inl ⟨by rfl, ?_⟩) ?_ ?_
 rotate_left
 ·intro w'
  go_simp
  with_reducible rfl
 rotate_left
 ·simp only [Act.put, qsA, qsB, qsC, i64_w, i32_w, qsD, qsE]
  rfl
 refine take_ (i := 10) (N := some 30) (v := ?_) (a' := ?_) #[qt, qt, qt, qt, qt, qt, qt, qt, qt, qt, qt, qf, qf, qf, qf, qf, qf, qf, qf, qf, qf, qf, qf, qf, qf, qf, qf, qf, qf, qf, qf, qf] rfl rfl (take_ofW HT_.out HW_.out (by kernel_rfl)) (fun _ _ _ h => h) (Or.inl ⟨by rfl, ?_⟩) hHeld ?_ ?_
 rotate_left
 ·rintro w' ⟨s0, s1⟩
  go_simp
  with_reducible rfl
 rotate_left
 ·simp only [Act.put, qsA, qsB, qsC, i64_w, i32_w, qsD, qsE]
  rfl
 refine take_ (i := 12) (N := some 32) (v := ?_) (a' := ?_) #[qt, qt, qt, qt, qt, qt, qt, qt, qt, qt, qt, qf, qt, qf, qf, qf, qf, qf, qf, qf, qf, qf, qf, qf, qf, qf, qf, qf, qf, qf, qf, qf] rfl rfl (take_ofW HT_.out HW_.out (by kernel_rfl)) (fun _ _ _ h => h) (Or.inl ⟨by rfl, ?_⟩) hHeld ?_ ?_
 rotate_left
 ·rintro w' ⟨s0, s1⟩
  go_simp
  with_reducible rfl
 rotate_left
 ·simp only [Act.put, qsA, qsB, qsC, i64_w, i32_w, qsD, qsE]
  rfl
 refine one_ (i := 11) (N := some 31) #[qt, qt, qt, qt, qt, qt, qt, qt, qt, qt, qt, qt, qt, qf, qf, qf, qf, qf, qf, qf, qf, qf, qf, qf, qf, qf, qf, qf, qf, qf, qf, qf] rfl rfl (one_of HT_.out (by kernel_rfl)) (by decide) (fun K hK => ?_)
 refine goes_ Tryd.func20 (by kernel_rfl) rfl #[.agg #[.slice Ao21 t274.length co21]] (by rfl) rfl rfl (by (try simp only [List.map_toArray, List.map_cons, List.map_nil]); first | done | rfl | (simp only [List.length_drop, List.length_take]; rfl)) ?_
 with_reducible refine (zipput_Size.calls _ _ t274 t283 _ ?side1 ?side2 A8.out).mono ?_
 (case side1 => repeat (first | exact (Kd.S_reads' HO276.out).2.2 | (with_reducible refine Kd.C_alloc ?_ _) | (with_reducible refine Kd.C_drewN ?_ _) | (with_reducible refine Kd.C_drew ?_)))
 (case side2 => exact (Kd.S_reads' HO276.out).2.1)
 rintro e w28 ⟨rfl, hb⟩
 refine ⟨_, rfl, ?_⟩
 have n0_ := qas (Kd.S_below (by (with_reducible repeat (first | apply Kd.S_alloc | apply Kd.S_drewN | apply Kd.S_drew)); exact HO276.out) hb)
 have n1_ := qas (blk_below (g := gb273) (o := .cells #[.slice A0_0 l0_0.length c0_0] 24 (0, 0)) (by (with_reducible repeat (first | refine qkA ?_ _ | refine qkB ?_ | refine qkC ?_ _)); exact BK273.out) hb)
 have n2_ := qas (blk_below (g := gb277) (o := .cells #[.slice Ao21 t274.length co21] 24 (0, 0)) (by (with_reducible repeat (first | refine qkA ?_ _ | refine qkB ?_ | refine qkC ?_ _)); exact BK277.out) hb)
 have n3_ := qas (below_step (by repeat (first | (with_reducible first | exact HB.out | apply qbA | apply qbB | apply qbC | refine below_set ?_ GE273.out | refine below_set ?_ GE277.out) | exact HB.out)) hb)
 clear HO276
 clear BK273
 clear BK277
 clear HB
 have HO276 := n0_
 have BK273 := n1_
 have BK277 := n2_
 have HB := n3_
 clear n0_ n1_ n2_ n3_
 (try clear hb)
 (try clear hb2)
 (try clear hk)
 (try clear hi)
 refine hK.out _ _ ⟨(blk_cell BK277.out 0).trans rfl, (blk_cell BK273.out 0).trans rfl⟩ (fun hHeld => ?_)
 clear hK K
 refine norm_ (a' := ?_) ?_ ?_
 rotate_left
 ·show Act.put _ (some 31) _ = _
  simp only [Act.put, qsA, qsB, qsC, i64_w, i32_w, qsD, qsE]
  rfl
 refine one_ (i := 13) (N := some 33) #[qt, qt, qt, qt, qt, qt, qt, qt, qt, qt, qt, qt, qt, qt, qf, qf, qf, qf, qf, qf, qf, qf, qf, qf, qf, qf, qf, qf, qf, qf, qf, qf] rfl rfl (one_of HT_.out (by kernel_rfl)) (by decide) (fun K hK => ?_)
 refine goes_ Tryd.func21 (by kernel_rfl) rfl #[.agg #[.slice A0_0 l0_0.length c0_0]] (by rfl) rfl rfl (by (try simp only [List.map_toArray, List.map_cons, List.map_nil]); first | done | rfl | (simp only [List.length_drop, List.length_take]; rfl)) ?_
 with_reducible refine (pr_Size.calls k _ _ l0_0 t284 _ ?side1 ?side2 A9.out).mono ?_
 (case side1 => repeat (first | exact (Kd.C_below HR0_0.out HB.out) | (with_reducible refine Kd.C_alloc ?_ _) | (with_reducible refine Kd.C_drewN ?_ _) | (with_reducible refine Kd.C_drew ?_)))
 (case side2 => exact HC0_0.out)
 rintro e w29 ⟨rfl, hb⟩
 refine ⟨_, rfl, ?_⟩
 have n0_ := qas (Kd.S_below (by (with_reducible repeat (first | apply Kd.S_alloc | apply Kd.S_drewN | apply Kd.S_drew)); exact HO276.out) hb)
 have n1_ := qas (blk_below (g := gb273) (o := .cells #[.slice A0_0 l0_0.length c0_0] 24 (0, 0)) (by (with_reducible repeat (first | refine qkA ?_ _ | refine qkB ?_ | refine qkC ?_ _)); exact BK273.out) hb)
 have n2_ := qas (blk_below (g := gb277) (o := .cells #[.slice Ao21 t274.length co21] 24 (0, 0)) (by (with_reducible repeat (first | refine qkA ?_ _ | refine qkB ?_ | refine qkC ?_ _)); exact BK277.out) hb)
 have n3_ := qas (below_step (by repeat (first | (with_reducible first | exact HB.out | apply qbA | apply qbB | apply qbC | refine below_set ?_ GE273.out | refine below_set ?_ GE277.out) | exact HB.out)) hb)
 clear HO276
 clear BK273
 clear BK277
 clear HB
 have HO276 := n0_
 have BK273 := n1_
 have BK277 := n2_
 have HB := n3_
 clear n0_ n1_ n2_ n3_
 (try clear hb)
 (try clear hb2)
 (try clear hk)
 (try clear hi)
 refine hK.out _ _ ⟨(blk_cell BK277.out 0).trans rfl, (blk_cell BK273.out 0).trans rfl⟩ (fun hHeld => ?_)
 clear hK K
 refine norm_ (a' := ?_) ?_ ?_
 rotate_left
 ·show Act.put _ (some 33) _ = _
  simp only [Act.put, qsA, qsB, qsC, i64_w, i32_w, qsD, qsE]
  rfl
 refine pure_ (i := 14) (N := some 34) (v := ?_) (a' := ?_) #[qt, qt, qt, qt, qt, qt, qt, qt, qt, qt, qt, qt, qt, qt, qt, qf, qf, qf, qf, qf, qf, qf, qf, qf, qf, qf, qf, qf, qf, qf, qf, qf] rfl rfl (any_of HT_.out (by kernel_rfl)) (fun _ _ _ h => h) (Or.inl ⟨by rfl, ?_⟩) ?_ ?_
 rotate_left
 ·intro w'
  go_simp
  with_reducible rfl
 rotate_left
 ·simp only [Act.put, qsA, qsB, qsC, i64_w, i32_w, qsD, qsE]
  rfl
 refine pure_ (i := 15) (N := some 35) (v := ?_) (a' := ?_) #[qt, qt, qt, qt, qt, qt, qt, qt, qt, qt, qt, qt, qt, qt, qt, qt, qf, qf, qf, qf, qf, qf, qf, qf, qf, qf, qf, qf, qf, qf, qf, qf] rfl rfl (any_of HT_.out (by kernel_rfl)) (fun _ _ _ h => h) (Or.inl ⟨by rfl, ?_⟩) ?_ ?_
 rotate_left
 ·intro w'
  go_simp
  with_reducible rfl
 rotate_left
 ·simp only [Act.put, qsA, qsB, qsC, i64_w, i32_w, qsD, qsE]
  rfl
 refine pure_ (i := 16) (N := some 36) (v := ?_) (a' := ?_) #[qt, qt, qt, qt, qt, qt, qt, qt, qt, qt, qt, qt, qt, qt, qt, qt, qt, qf, qf, qf, qf, qf, qf, qf, qf, qf, qf, qf, qf, qf, qf, qf] rfl rfl (any_of HT_.out (by kernel_rfl)) (fun _ _ _ h => h) (Or.inl ⟨by rfl, ?_⟩) ?_ ?_
 rotate_left
 ·intro w'
  go_simp
  with_reducible rfl
 rotate_left
 ·simp only [Act.put, qsA, qsB, qsC, i64_w, i32_w, qsD, qsE]
  rfl
 refine take_ (i := 17) (N := some 37) (v := ?_) (a' := ?_) #[qt, qt, qt, qt, qt, qt, qt, qt, qt, qt, qt, qt, qt, qt, qt, qt, qt, qt, qf, qf, qf, qf, qf, qf, qf, qf, qf, qf, qf, qf, qf, qf] rfl rfl (take_ofW HT_.out HW_.out (by kernel_rfl)) (fun _ _ _ h => h) (Or.inl ⟨by rfl, ?_⟩) hHeld ?_ ?_
 rotate_left
 ·rintro w' ⟨s0, s1⟩
  go_simp
  with_reducible rfl
 rotate_left
 ·simp only [Act.put, qsA, qsB, qsC, i64_w, i32_w, qsD, qsE]
  rfl
 refine take_ (i := 19) (N := some 39) (v := ?_) (a' := ?_) #[qt, qt, qt, qt, qt, qt, qt, qt, qt, qt, qt, qt, qt, qt, qt, qt, qt, qt, qf, qt, qf, qf, qf, qf, qf, qf, qf, qf, qf, qf, qf, qf] rfl rfl (take_ofW HT_.out HW_.out (by kernel_rfl)) (fun _ _ _ h => h) (Or.inl ⟨by rfl, ?_⟩) hHeld ?_ ?_
 rotate_left
 ·rintro w' ⟨s0, s1⟩
  go_simp
  with_reducible rfl
 rotate_left
 ·simp only [Act.put, qsA, qsB, qsC, i64_w, i32_w, qsD, qsE]
  rfl
 refine one_ (i := 18) (N := some 38) #[qt, qt, qt, qt, qt, qt, qt, qt, qt, qt, qt, qt, qt, qt, qt, qt, qt, qt, qt, qt, qf, qf, qf, qf, qf, qf, qf, qf, qf, qf, qf, qf] rfl rfl (one_of HT_.out (by kernel_rfl)) (by decide) (fun K hK => ?_)
 refine goes_ Tryd.func22 (by kernel_rfl) rfl #[.agg #[.slice Ao21 t274.length co21]] (by rfl) rfl rfl (by (try simp only [List.map_toArray, List.map_cons, List.map_nil]); first | done | rfl | (simp only [List.length_drop, List.length_take]; rfl)) ?_
 with_reducible refine (zipput_May.calls _ _ t274 t285 _ ?side1 ?side2 A11.out).mono ?_
 (case side1 => repeat (first | exact (Kd.S_reads' HO276.out).2.2 | (with_reducible refine Kd.C_alloc ?_ _) | (with_reducible refine Kd.C_drewN ?_ _) | (with_reducible refine Kd.C_drew ?_)))
 (case side2 => exact (Kd.S_reads' HO276.out).2.1)
 rintro e w30 ⟨rfl, hb⟩
 refine ⟨_, rfl, ?_⟩
 have n0_ := qas (Kd.S_below (by (with_reducible repeat (first | apply Kd.S_alloc | apply Kd.S_drewN | apply Kd.S_drew)); exact HO276.out) hb)
 have n1_ := qas (blk_below (g := gb273) (o := .cells #[.slice A0_0 l0_0.length c0_0] 24 (0, 0)) (by (with_reducible repeat (first | refine qkA ?_ _ | refine qkB ?_ | refine qkC ?_ _)); exact BK273.out) hb)
 have n2_ := qas (blk_below (g := gb277) (o := .cells #[.slice Ao21 t274.length co21] 24 (0, 0)) (by (with_reducible repeat (first | refine qkA ?_ _ | refine qkB ?_ | refine qkC ?_ _)); exact BK277.out) hb)
 have n3_ := qas (below_step (by repeat (first | (with_reducible first | exact HB.out | apply qbA | apply qbB | apply qbC | refine below_set ?_ GE273.out | refine below_set ?_ GE277.out) | exact HB.out)) hb)
 clear HO276
 clear BK273
 clear BK277
 clear HB
 have HO276 := n0_
 have BK273 := n1_
 have BK277 := n2_
 have HB := n3_
 clear n0_ n1_ n2_ n3_
 (try clear hb)
 (try clear hb2)
 (try clear hk)
 (try clear hi)
 refine hK.out _ _ ⟨(blk_cell BK277.out 0).trans rfl, (blk_cell BK273.out 0).trans rfl⟩ (fun hHeld => ?_)
 clear hK K
 refine norm_ (a' := ?_) ?_ ?_
 rotate_left
 ·show Act.put _ (some 38) _ = _
  simp only [Act.put, qsA, qsB, qsC, i64_w, i32_w, qsD, qsE]
  rfl
 refine one_ (i := 20) (N := some 40) #[qt, qt, qt, qt, qt, qt, qt, qt, qt, qt, qt, qt, qt, qt, qt, qt, qt, qt, qt, qt, qt, qf, qf, qf, qf, qf, qf, qf, qf, qf, qf, qf] rfl rfl (one_of HT_.out (by kernel_rfl)) (by decide) (fun K hK => ?_)
 refine goes_ Tryd.func23 (by kernel_rfl) rfl #[.agg #[.slice A0_0 l0_0.length c0_0]] (by rfl) rfl rfl (by (try simp only [List.map_toArray, List.map_cons, List.map_nil]); first | done | rfl | (simp only [List.length_drop, List.length_take]; rfl)) ?_
 with_reducible refine (pr_WriteMay.calls k _ _ l0_0 t286 _ ?side1 ?side2 A12.out).mono ?_
 (case side1 => repeat (first | exact (Kd.C_below HR0_0.out HB.out) | (with_reducible refine Kd.C_alloc ?_ _) | (with_reducible refine Kd.C_drewN ?_ _) | (with_reducible refine Kd.C_drew ?_)))
 (case side2 => exact HC0_0.out)
 rintro e w31 ⟨rfl, hb⟩
 refine ⟨_, rfl, ?_⟩
 have n0_ := qas (Kd.S_below (by (with_reducible repeat (first | apply Kd.S_alloc | apply Kd.S_drewN | apply Kd.S_drew)); exact HO276.out) hb)
 have n1_ := qas (blk_below (g := gb273) (o := .cells #[.slice A0_0 l0_0.length c0_0] 24 (0, 0)) (by (with_reducible repeat (first | refine qkA ?_ _ | refine qkB ?_ | refine qkC ?_ _)); exact BK273.out) hb)
 have n2_ := qas (blk_below (g := gb277) (o := .cells #[.slice Ao21 t274.length co21] 24 (0, 0)) (by (with_reducible repeat (first | refine qkA ?_ _ | refine qkB ?_ | refine qkC ?_ _)); exact BK277.out) hb)
 have n3_ := qas (below_step (by repeat (first | (with_reducible first | exact HB.out | apply qbA | apply qbB | apply qbC | refine below_set ?_ GE273.out | refine below_set ?_ GE277.out) | exact HB.out)) hb)
 clear HO276
 clear BK273
 clear BK277
 clear HB
 have HO276 := n0_
 have BK273 := n1_
 have BK277 := n2_
 have HB := n3_
 clear n0_ n1_ n2_ n3_
 (try clear hb)
 (try clear hb2)
 (try clear hk)
 (try clear hi)
 refine hK.out _ _ ⟨(blk_cell BK277.out 0).trans rfl, (blk_cell BK273.out 0).trans rfl⟩ (fun hHeld => ?_)
 clear hK K
 refine norm_ (a' := ?_) ?_ ?_
 rotate_left
 ·show Act.put _ (some 40) _ = _
  simp only [Act.put, qsA, qsB, qsC, i64_w, i32_w, qsD, qsE]
  rfl
 refine pure_ (i := 21) (N := some 41) (v := ?_) (a' := ?_) #[qt, qt, qt, qt, qt, qt, qt, qt, qt, qt, qt, qt, qt, qt, qt, qt, qt, qt, qt, qt, qt, qt, qf, qf, qf, qf, qf, qf, qf, qf, qf, qf] rfl rfl (any_of HT_.out (by kernel_rfl)) (fun _ _ _ h => h) (Or.inl ⟨by rfl, ?_⟩) ?_ ?_
 rotate_left
 ·intro w'
  go_simp
  with_reducible rfl
 rotate_left
 ·simp only [Act.put, qsA, qsB, qsC, i64_w, i32_w, qsD, qsE]
  rfl
 refine pure_ (i := 22) (N := some 42) (v := ?_) (a' := ?_) #[qt, qt, qt, qt, qt, qt, qt, qt, qt, qt, qt, qt, qt, qt, qt, qt, qt, qt, qt, qt, qt, qt, qt, qf, qf, qf, qf, qf, qf, qf, qf, qf] rfl rfl (any_of HT_.out (by kernel_rfl)) (fun _ _ _ h => h) (Or.inl ⟨by rfl, ?_⟩) ?_ ?_
 rotate_left
 ·intro w'
  go_simp
  with_reducible rfl
 rotate_left
 ·simp only [Act.put, qsA, qsB, qsC, i64_w, i32_w, qsD, qsE]
  rfl
 refine pure_ (i := 23) (N := some 43) (v := ?_) (a' := ?_) #[qt, qt, qt, qt, qt, qt, qt, qt, qt, qt, qt, qt, qt, qt, qt, qt, qt, qt, qt, qt, qt, qt, qt, qt, qf, qf, qf, qf, qf, qf, qf, qf] rfl rfl (any_of HT_.out (by kernel_rfl)) (fun _ _ _ h => h) (Or.inl ⟨by rfl, ?_⟩) ?_ ?_
 rotate_left
 ·intro w'
  go_simp
  with_reducible rfl
 rotate_left
 ·simp only [Act.put, qsA, qsB, qsC, i64_w, i32_w, qsD, qsE]
  rfl
 refine take_ (i := 24) (N := some 44) (v := ?_) (a' := ?_) #[qt, qt, qt, qt, qt, qt, qt, qt, qt, qt, qt, qt, qt, qt, qt, qt, qt, qt, qt, qt, qt, qt, qt, qt, qt, qf, qf, qf, qf, qf, qf, qf] rfl rfl (take_ofW HT_.out HW_.out (by kernel_rfl)) (fun _ _ _ h => h) (Or.inl ⟨by rfl, ?_⟩) hHeld ?_ ?_
 rotate_left
 ·rintro w' ⟨s0, s1⟩
  go_simp
  with_reducible rfl
 rotate_left
 ·simp only [Act.put, qsA, qsB, qsC, i64_w, i32_w, qsD, qsE]
  rfl
 refine take_ (i := 25) (N := some 45) (v := ?_) (a' := ?_) #[qt, qt, qt, qt, qt, qt, qt, qt, qt, qt, qt, qt, qt, qt, qt, qt, qt, qt, qt, qt, qt, qt, qt, qt, qt, qt, qf, qf, qf, qf, qf, qf] rfl rfl (take_ofW HT_.out HW_.out (by kernel_rfl)) (fun _ _ _ h => h) (Or.inl ⟨by rfl, ?_⟩) hHeld ?_ ?_
 rotate_left
 ·rintro w' ⟨s0, s1⟩
  go_simp
  with_reducible rfl
 rotate_left
 ·simp only [Act.put, qsA, qsB, qsC, i64_w, i32_w, qsD, qsE]
  rfl
 refine one_ (i := 26) (N := some 46) #[qt, qt, qt, qt, qt, qt, qt, qt, qt, qt, qt, qt, qt, qt, qt, qt, qt, qt, qt, qt, qt, qt, qt, qt, qt, qt, qt, qf, qf, qf, qf, qf] rfl rfl (one_of HT_.out (by kernel_rfl)) (by decide) (fun K hK => ?_)
 refine goes_ Tryd.func24 (by kernel_rfl) rfl #[.agg #[.slice Ao21 t274.length co21], .agg #[.slice A0_0 l0_0.length c0_0]] (by rfl) rfl rfl (by (try simp only [List.map_toArray, List.map_cons, List.map_nil]); first | done | rfl | (simp only [List.length_drop, List.length_take]; rfl)) ?_
 with_reducible refine (pl_SameFolder.calls k _ _ t274 _ _ l0_0 true _ ?side1 ?side2 ?side3 ?side4 A14.out).mono ?_
 (case side1 => repeat (first | exact (Kd.S_reads' HO276.out).2.2 | (with_reducible refine Kd.C_alloc ?_ _) | (with_reducible refine Kd.C_drewN ?_ _) | (with_reducible refine Kd.C_drew ?_)))
 (case side2 => exact (Kd.S_reads' HO276.out).2.1)
 (case side3 => repeat (first | exact (Kd.C_below HR0_0.out HB.out) | (with_reducible refine Kd.C_alloc ?_ _) | (with_reducible refine Kd.C_drewN ?_ _) | (with_reducible refine Kd.C_drew ?_)))
 (case side4 => exact HC0_0.out)
 rintro e w32 ⟨rfl, hb⟩
 refine ⟨_, rfl, ?_⟩
 have n0_ := qas (Kd.S_below (by (with_reducible repeat (first | apply Kd.S_alloc | apply Kd.S_drewN | apply Kd.S_drew)); exact HO276.out) hb)
 have n1_ := qas (blk_below (g := gb273) (o := .cells #[.slice A0_0 l0_0.length c0_0] 24 (0, 0)) (by (with_reducible repeat (first | refine qkA ?_ _ | refine qkB ?_ | refine qkC ?_ _)); exact BK273.out) hb)
 have n2_ := qas (blk_below (g := gb277) (o := .cells #[.slice Ao21 t274.length co21] 24 (0, 0)) (by (with_reducible repeat (first | refine qkA ?_ _ | refine qkB ?_ | refine qkC ?_ _)); exact BK277.out) hb)
 have n3_ := qas (below_step (by repeat (first | (with_reducible first | exact HB.out | apply qbA | apply qbB | apply qbC | refine below_set ?_ GE273.out | refine below_set ?_ GE277.out) | exact HB.out)) hb)
 clear HO276
 clear BK273
 clear BK277
 clear HB
 have HO276 := n0_
 have BK273 := n1_
 have BK277 := n2_
 have HB := n3_
 clear n0_ n1_ n2_ n3_
 (try clear hb)
 (try clear hb2)
 (try clear hk)
 (try clear hi)
 refine hK.out _ _ ⟨(blk_cell BK277.out 0).trans rfl, (blk_cell BK273.out 0).trans rfl⟩ (fun hHeld => ?_)
 clear hK K
 refine norm_ (a' := ?_) ?_ ?_
 rotate_left
 ·show Act.put _ (some 46) _ = _
  simp only [Act.put, qsA, qsB, qsC, i64_w, i32_w, qsD, qsE]
  rfl
 refine pure_ (i := 27) (N := some 47) (v := ?_) (a' := ?_) #[qt, qt, qt, qt, qt, qt, qt, qt, qt, qt, qt, qt, qt, qt, qt, qt, qt, qt, qt, qt, qt, qt, qt, qt, qt, qt, qt, qt, qf, qf, qf, qf] rfl rfl (any_of HT_.out (by kernel_rfl)) (fun _ _ _ h => h) (Or.inl ⟨by rfl, ?_⟩) ?_ ?_
 rotate_left
 ·intro w'
  go_simp
  with_reducible rfl
 rotate_left
 ·simp only [Act.put, qsA, qsB, qsC, i64_w, i32_w, qsD, qsE]
  rfl
 refine pure_ (i := 28) (N := some 48) (v := ?_) (a' := ?_) #[qt, qt, qt, qt, qt, qt, qt, qt, qt, qt, qt, qt, qt, qt, qt, qt, qt, qt, qt, qt, qt, qt, qt, qt, qt, qt, qt, qt, qt, qf, qf, qf] rfl rfl (any_of HT_.out (by kernel_rfl)) (fun _ _ _ h => h) (Or.inl ⟨by rfl, ?_⟩) ?_ ?_
 rotate_left
 ·intro w'
  go_simp
  with_reducible rfl
 rotate_left
 ·simp only [Act.put, qsA, qsB, qsC, i64_w, i32_w, qsD, qsE]
  rfl
 refine one_ (i := 29) (N := some 49) #[qt, qt, qt, qt, qt, qt, qt, qt, qt, qt, qt, qt, qt, qt, qt, qt, qt, qt, qt, qt, qt, qt, qt, qt, qt, qt, qt, qt, qt, qt, qf, qf] rfl rfl (one_of HT_.out (by kernel_rfl)) (by decide) (fun K hK => ?_)
 refine goes_ Tryd.func25 (by kernel_rfl) rfl #[] (by rfl) rfl rfl (by (try simp only [List.map_toArray, List.map_cons, List.map_nil]); first | done | rfl | (simp only [List.length_drop, List.length_take]; rfl)) ?_
 with_reducible refine (pm_awake.calls k  t288 _ A16.out).mono ?_
 rintro e w33 ⟨rfl, hb⟩
 refine ⟨_, rfl, ?_⟩
 have n0_ := qas (Kd.S_below (by (with_reducible repeat (first | apply Kd.S_alloc | apply Kd.S_drewN | apply Kd.S_drew)); exact HO276.out) hb)
 have n1_ := qas (blk_below (g := gb273) (o := .cells #[.slice A0_0 l0_0.length c0_0] 24 (0, 0)) (by (with_reducible repeat (first | refine qkA ?_ _ | refine qkB ?_ | refine qkC ?_ _)); exact BK273.out) hb)
 have n2_ := qas (blk_below (g := gb277) (o := .cells #[.slice Ao21 t274.length co21] 24 (0, 0)) (by (with_reducible repeat (first | refine qkA ?_ _ | refine qkB ?_ | refine qkC ?_ _)); exact BK277.out) hb)
 have n3_ := qas (below_step (by repeat (first | (with_reducible first | exact HB.out | apply qbA | apply qbB | apply qbC | refine below_set ?_ GE273.out | refine below_set ?_ GE277.out) | exact HB.out)) hb)
 clear HO276
 clear BK273
 clear BK277
 clear HB
 have HO276 := n0_
 have BK273 := n1_
 have BK277 := n2_
 have HB := n3_
 clear n0_ n1_ n2_ n3_
 (try clear hb)
 (try clear hb2)
 (try clear hk)
 (try clear hi)
 refine hK.out _ _ ⟨(blk_cell BK277.out 0).trans rfl, (blk_cell BK273.out 0).trans rfl⟩ (fun hHeld => ?_)
 clear hK K
 refine norm_ (a' := ?_) ?_ ?_
 rotate_left
 ·show Act.put _ (some 49) _ = _
  simp only [Act.put, qsA, qsB, qsC, i64_w, i32_w, qsD, qsE]
  rfl
 refine pure_ (i := 30) (N := some 50) (v := ?_) (a' := ?_) #[qt, qt, qt, qt, qt, qt, qt, qt, qt, qt, qt, qt, qt, qt, qt, qt, qt, qt, qt, qt, qt, qt, qt, qt, qt, qt, qt, qt, qt, qt, qt, qf] rfl rfl (any_of HT_.out (by kernel_rfl)) (fun _ _ _ h => h) (Or.inl ⟨by rfl, ?_⟩) ?_ ?_
 rotate_left
 ·intro w'
  go_simp
  with_reducible rfl
 rotate_left
 ·simp only [Act.put, qsA, qsB, qsC, i64_w, i32_w, qsD, qsE]
  rfl
 refine pure_ (i := 31) (N := some 2) (v := ?_) (a' := ?_) #[qt, qt, qt, qt, qt, qt, qt, qt, qt, qt, qt, qt, qt, qt, qt, qt, qt, qt, qt, qt, qt, qt, qt, qt, qt, qt, qt, qt, qt, qt, qt, qt] rfl rfl (any_of HT_.out (by kernel_rfl)) (fun _ _ _ h => h) (Or.inl ⟨by rfl, ?_⟩) ?_ ?_
 rotate_left
 ·intro w'
  go_simp
  with_reducible rfl
 rotate_left
 ·simp only [Act.put, qsA, qsB, qsC, i64_w, i32_w, qsD, qsE]
  rfl
 refine done_ (done_of HT_.out (by kernel_rfl)) ?_
 try go_wp2
 go_ret
 exact ⟨by first | rfl | (simp [errW_none, errW_some] <;> rfl) | (simp [*, errW_none, errW_some] <;> rfl), by repeat (first | (with_reducible first | exact HB.out | apply qbA | apply qbB | apply qbC | refine below_set ?_ GE273.out | refine below_set ?_ GE277.out) | exact HB.out)⟩

end Go.Proofs.YtneogampbohfnaaDoor.ZZ
