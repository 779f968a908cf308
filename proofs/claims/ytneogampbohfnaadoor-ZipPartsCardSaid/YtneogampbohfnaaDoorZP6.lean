-- Written by a program of this session out of the translation (a changed copy of the kit's printer).
import Derived.Test.YtneogampbohfnaaDoorZP0
import Derived.Test.YtneogampbohfnaaDoorZipU
namespace Go.Proofs.YtneogampbohfnaaDoor.ZP
open Go.Proofs.YtneogampbohfnaaDoor.ZB (S39 z39 k39 k39_open k39_openM k39_mk k39_mkM rd_T39 at_T39)
open Go.RowKit Go.Proofs.YtneogampbohfnaaDoorW.PrintWords Go.Proofs.YtneogampbohfnaaDoorW.PrintLast Go.Proofs.YtneogampbohfnaaDoorW.PrintMore
attribute [local go_sem] max2_int min2_int max_two min_two max_three min_three max_four min_four   -- for this text's walks alone
set_option linter.unusedVariables false
set_option linter.unusedSimpArgs false

-- NOT PRINTED: function 50 (zipput_writer_names)

/-! ### zipput_Put: function 17 -/
-- IMPORT Derived.Test.YtneogampbohfnaaDoorZipU
def zipput_Put.f (l0_0 : List (S39)) : Option (ByteArray × Int) := if l0_0.length ≤ 9223372036854775807 then some (ZipW.putR l0_0) else none
theorem zipput_Put.calls (A0_0 : Option Addr) (c0_0 : Nat) (l0_0 : List (S39)) (r1 : ByteArray) (r2 : Int) (w : World) (hr0_0 : Kd.C k39 w A0_0 l0_0.length l0_0) (hc0_0 : l0_0.length ≤ c0_0) (h : zipput_Put.f l0_0 = some (r1, r2)) :
  Calls Tryd.prog 17 #[.agg #[.slice A0_0 l0_0.length c0_0]] w fun e w' => e = .returned (.tuple #[.string r1, .int .i64 r2]) ∧ Below w.heap.size w w' := by
 unfold zipput_Put.f at h
 by_cases h1 : l0_0.length ≤ 9223372036854775807
 rotate_left
 ·rw [if_neg h1] at h
  exact absurd h (by simp)
 rw [if_pos h1] at h
 have h2 := Option.some.inj h
 have e1 : (ZipW.putR l0_0).1 = r1 := by rw [h2]
 have e2 : (ZipW.putR l0_0).2 = r2 := by rw [h2]
 subst e1
 subst e2
 exact ZipW.put_walk A0_0 c0_0 l0_0 w hr0_0 hc0_0 h1

/-! ### portagelaw0_Num: function 19 -/
def portagelaw0_Num.f (a0 : Int) : Option (Int) := some a0
set_option maxHeartbeats 8000000 in
set_option maxRecDepth 100000 in
theorem portagelaw0_Num.calls (a0 : Int) (r : Int) (w : World) (h : portagelaw0_Num.f a0 = some r) :
  Calls Tryd.prog 19 #[.int .i64 a0] w fun e w' => e = .returned (.int .i64 r) ∧ Drawn0 w w' := by
 have H : (some a0) = some r := h
 clear h
 obtain rfl := Option.some.inj H
 go_enter Tryd.func19, Tryd.ntmps19
 go_wp2
 go_ret
 exact ⟨by first | rfl | (simp; done) | (simp [*]; done), by repeat (first | exact Drawn0.refl _ | apply Drawn0.step)⟩

/-! ### zipput_Size: function 20 -/
-- IMPORT Derived.Test.YtneogampbohfnaaDoorZipU
def zipput_Size.f (l0_0 : List (S39)) : Option Int := if l0_0.length ≤ 9223372036854775807 then some (ZipW.sizeR l0_0) else none
theorem zipput_Size.calls (A0_0 : Option Addr) (c0_0 : Nat) (l0_0 : List (S39)) (r : Int) (w : World) (hr0_0 : Kd.C k39 w A0_0 l0_0.length l0_0) (hc0_0 : l0_0.length ≤ c0_0) (h : zipput_Size.f l0_0 = some r) :
  Calls Tryd.prog 20 #[.agg #[.slice A0_0 l0_0.length c0_0]] w fun e w' => e = .returned (.int .i64 r) ∧ Below w.heap.size w w' := by
 unfold zipput_Size.f at h
 by_cases h1 : l0_0.length ≤ 9223372036854775807
 rotate_left
 ·rw [if_neg h1] at h
  exact absurd h (by simp)
 rw [if_pos h1] at h
 have h2 := Option.some.inj h
 subst h2
 exact ZipW.size_any A0_0 c0_0 l0_0 w hr0_0 hc0_0 h1

/-! ### portageref1_turn: function 89 -/
mutual
def portageref1_turn.l0 : Nat → Int → ByteArray → Int → Option (Int)
 | 0, _, _, _ => none
 | k + 1, x0, x1, x5 => if x5 < (x1.size : Int) then (if 0 ≤ x5 then (portageref1_turn.l1 k (Go.bits .xor .u32 x0 ((bt x1 x5) % 4294967296)) x1 x5 0) else (none)) else (some x0)
def portageref1_turn.l1 : Nat → Int → ByteArray → Int → Int → Option (Int)
 | 0, _, _, _, _ => none
 | k + 1, x0, x1, x5, x6 => if x6 < 8 then (if (Go.bits .and .u32 x0 1) = 1 then (portageref1_turn.l1 k (Go.bits .xor .u32 (x0 / 2) 3988292384) x1 x5 (wrap64 (x6 + 1))) else (portageref1_turn.l1 k (x0 / 2) x1 x5 (wrap64 (x6 + 1)))) else (portageref1_turn.l0 k x0 x1 (wrap64 (x5 + 1)))
end
def portageref1_turn.f (k : Nat) (a0 : Int) (a1 : ByteArray) : Option (Int) := portageref1_turn.l0 k a0 a1 0
theorem portageref1_turn.mono_l : ∀ k, (∀ y0 y1 y2, LeO (portageref1_turn.l0 k y0 y1 y2) (portageref1_turn.l0 (k + 1) y0 y1 y2)) ∧ (∀ y0 y1 y2 y3, LeO (portageref1_turn.l1 k y0 y1 y2 y3) (portageref1_turn.l1 (k + 1) y0 y1 y2 y3))
 | 0 => ⟨fun _ _ _ r h => by simp [portageref1_turn.l0] at h, fun _ _ _ _ r h => by simp [portageref1_turn.l1] at h⟩
 | k + 1 => by
  obtain ⟨ih0, ih1⟩ := portageref1_turn.mono_l k
  refine ⟨?_, ?_⟩
  ·intro y0 y1 y2
   unfold portageref1_turn.l0
   repeat' first
   | (with_reducible exact ih0 _ _ _)
   | (with_reducible exact ih1 _ _ _ _)
   | (with_reducible exact LeO.refl _)
   | (with_reducible exact LeO.none _)
   | (with_reducible refine LeO.ite ?_ ?_)
   | (with_reducible refine LeO.bind ?_ (fun _ => ?_))
   | exact ih0 _ _ _
   | exact ih1 _ _ _ _
   | exact LeO.none _
   | refine LeO.ite ?_ ?_
   | refine LeO.bind ?_ (fun _ => ?_)
  ·intro y0 y1 y2 y3
   unfold portageref1_turn.l1
   repeat' first
   | (with_reducible exact ih0 _ _ _)
   | (with_reducible exact ih1 _ _ _ _)
   | (with_reducible exact LeO.refl _)
   | (with_reducible exact LeO.none _)
   | (with_reducible refine LeO.ite ?_ ?_)
   | (with_reducible refine LeO.bind ?_ (fun _ => ?_))
   | exact ih0 _ _ _
   | exact ih1 _ _ _ _
   | exact LeO.none _
   | refine LeO.ite ?_ ?_
   | refine LeO.bind ?_ (fun _ => ?_)
theorem portageref1_turn.mono : ∀ a0 a1 k, LeO (portageref1_turn.f k a0 a1) (portageref1_turn.f (k + 1) a0 a1) := by
 intro a0 a1 k
 obtain ⟨ih0, ih1⟩ := portageref1_turn.mono_l k
 unfold portageref1_turn.f
 repeat' first
   | (with_reducible exact ih0 _ _ _)
   | (with_reducible exact ih1 _ _ _ _)
   | (with_reducible exact LeO.refl _)
   | (with_reducible exact LeO.none _)
   | (with_reducible refine LeO.ite ?_ ?_)
   | (with_reducible refine LeO.bind ?_ (fun _ => ?_))
   | exact ih0 _ _ _
   | exact ih1 _ _ _ _
   | exact LeO.none _
   | refine LeO.ite ?_ ?_
   | refine LeO.bind ?_ (fun _ => ?_)
set_option maxHeartbeats 8000000 in
set_option maxRecDepth 100000 in
theorem portageref1_turn.calls (k : Nat) (a0 : Int) (a1 : ByteArray) (r : Int) (w : World) (h : portageref1_turn.f k a0 a1 = some r) :
  Calls Tryd.prog 89 #[.int .u32 a0, .string a1] w fun e w' => e = .returned (.int .u32 r) ∧ Drawn0 w w' := by
 have H : (portageref1_turn.l0 k a0 a1 0) = some r := h
 clear h
 have H' := qas H
 clear H
 go_enter Tryd.func89, Tryd.ntmps89
 go_wp2
 go_loopg [0, 5] k (fun kq v0 v5 w' => ∃ (x0_1 : Int) (x5_1 : Int), v0 = .int .u32 x0_1 ∧ v5 = .int .i64 x5_1 ∧ Aside0 (portageref1_turn.l0 kq x0_1 a1 x5_1 = some r) ∧ Aside0 (kq ≤ k) ∧ Drawn0 w w')
 case atStart => exact ⟨(a0), (0), (by first | rfl | (simp; done) | (simp [*]; done)), (by first | rfl | (simp; done) | (simp [*]; done)), H', ⟨Nat.le_refl _⟩, by repeat (first | exact Drawn0.refl _ | apply Drawn0.step)⟩
 case round =>
  clear H'
  try clear p2
  obtain ⟨x0_1, x5_1, rfl, rfl, HA, HK1, ⟨m1, rfl⟩⟩ := hrel
  cases gk with
  | zero => exact absurd HA.out (by simp [portageref1_turn.l0])
  | succ k1 =>
   have H := HA.out
   clear HA
   simp only [portageref1_turn.l0] at H
   by_cases c3 : x5_1 < (a1.size : Int)
   rotate_left
   ·rw [if_neg c3] at H
    have c3b0 : decide (x5_1 < (a1.size : Int)) = false := decide_eq_false c3
    clear c3
    obtain rfl := Option.some.inj H
    go_wp2
    go_ret
    exact ⟨by first | rfl | (simp; done) | (simp [*]; done), by repeat (first | exact Drawn0.refl _ | apply Drawn0.step)⟩
   rw [if_pos c3] at H
   have c3b0 : decide (x5_1 < (a1.size : Int)) = true := decide_eq_true c3
   clear c3
   by_cases c4 : 0 ≤ x5_1
   rotate_left
   ·rw [if_neg c4] at H
    exact absurd H (by simp)
   rw [if_pos c4] at H
   have c4b0 : decide (0 ≤ x5_1) = true := decide_eq_true c4
   clear c4
   have H' := qas H
   clear H
   have p5 : 0 ≤ (x5_1 : Int) := qde (by first | (with_reducible assumption) | assumption)
   have q5 : x5_1 < (a1.size : Int) := qde (by first | (with_reducible assumption) | assumption)
   have hx5 := bt_at a1 x5_1
   replace p5 := eq_true p5
   replace q5 := eq_true q5
   go_wp2
   go_loopg [0, 6] k1 (fun kq v0 v6 w' => ∃ (x0_2 : Int) (x6_2 : Int), v0 = .int .u32 x0_2 ∧ v6 = .int .i64 x6_2 ∧ Aside0 (portageref1_turn.l1 kq x0_2 a1 x5_1 x6_2 = some r) ∧ Aside0 (kq ≤ k1) ∧ Drawn0 w w')
   case atStart => exact ⟨(Go.bits .xor .u32 x0_1 ((bt a1 x5_1) % 4294967296)), (0), (by first | rfl | (simp; done) | (simp [*]; done)), (by first | rfl | (simp; done) | (simp [*]; done)), H', ⟨Nat.le_refl _⟩, by repeat (first | exact Drawn0.refl _ | apply Drawn0.step)⟩
   case round =>
    clear H'
    try clear p2
    try clear c3
    try clear c3b0
    try clear c4
    try clear c4b0
    try clear p5
    try clear q5
    try clear hx5
    try clear p2
    try clear p5
    try clear q5
    obtain ⟨x0_2, x6_2, rfl, rfl, HA, HK2, ⟨m2, rfl⟩⟩ := hrel
    cases gk with
    | zero => exact absurd HA.out (by simp [portageref1_turn.l1])
    | succ k2 =>
     have H := HA.out
     clear HA
     simp only [portageref1_turn.l1] at H
     by_cases c6 : x6_2 < 8
     rotate_left
     ·rw [if_neg c6] at H
      have c6b0 : decide (x6_2 < 8) = false := decide_eq_false c6
      clear c6
      have H' := qas H
      clear H
      go_wp2
      go_roundg k2
      case measure => have := HK1.out; have := HK2.out; omega
      case rel => exact ⟨(x0_2), (wrap64 (x5_1 + 1)), (by first | rfl | (simp; done) | (simp [*]; done)), (by first | rfl | (simp; done) | (simp [*]; done)), H', ⟨by have := HK1.out; have := HK2.out; omega⟩, by repeat (first | exact Drawn0.refl _ | apply Drawn0.step)⟩
     rw [if_pos c6] at H
     have c6b0 : decide (x6_2 < 8) = true := decide_eq_true c6
     clear c6
     by_cases c7 : (Go.bits .and .u32 x0_2 1) = 1
     rotate_left
     ·rw [if_neg c7] at H
      have c7b0 : ((Go.bits .and .u32 x0_2 1) == 1) = false := beq_eq_false_iff_ne.mpr c7
      have c7b1 : ((Go.bits .and .u32 x0_2 1) != 1) = true := bne_iff_ne.mpr c7
      have H' := qas H
      clear H
      go_wp2
      go_roundg k2
      case measure => have := HK1.out; have := HK2.out; omega
      case rel => exact ⟨(x0_2 / 2), (wrap64 (x6_2 + 1)), (by first | rfl | (simp; done) | (simp [*]; done)), (by first | rfl | (simp; done) | (simp [*]; done)), H', ⟨by have := HK1.out; have := HK2.out; omega⟩, by repeat (first | exact Drawn0.refl _ | apply Drawn0.step)⟩
     rw [if_pos c7] at H
     have c7b0 : ((Go.bits .and .u32 x0_2 1) == 1) = true := beq_iff_eq.mpr c7
     have c7b1 : ((Go.bits .and .u32 x0_2 1) != 1) = false := bne_eq_false_iff_eq.mpr c7
     clear c7
     have H' := qas H
     clear H
     go_wp2
     go_roundg k2
     case measure => have := HK1.out; have := HK2.out; omega
     case rel => exact ⟨(Go.bits .xor .u32 (x0_2 / 2) 3988292384), (wrap64 (x6_2 + 1)), (by first | rfl | (simp; done) | (simp [*]; done)), (by first | rfl | (simp; done) | (simp [*]; done)), H', ⟨by have := HK1.out; have := HK2.out; omega⟩, by repeat (first | exact Drawn0.refl _ | apply Drawn0.step)⟩

/-! ### portageref1_Crc: function 60 -/
def portageref1_Crc.f (k : Nat) (a0 : ByteArray) : Option (Int) := (portageref1_turn.f k 4294967295 a0).bind fun t130 => (some (wrap64 (Go.bits .xor .u32 4294967295 t130)))
theorem portageref1_Crc.mono : ∀ a0 k, LeO (portageref1_Crc.f k a0) (portageref1_Crc.f (k + 1) a0) := by
 intro a0 k
 unfold portageref1_Crc.f
 repeat' first
   | (with_reducible exact portageref1_turn.mono _ _ _)
   | (with_reducible exact LeO.refl _)
   | (with_reducible exact LeO.none _)
   | (with_reducible refine LeO.ite ?_ ?_)
   | (with_reducible refine LeO.bind ?_ (fun _ => ?_))
   | exact portageref1_turn.mono _ _ _
   | exact LeO.none _
   | refine LeO.ite ?_ ?_
   | refine LeO.bind ?_ (fun _ => ?_)
set_option maxHeartbeats 8000000 in
set_option maxRecDepth 100000 in
theorem portageref1_Crc.calls (k : Nat) (a0 : ByteArray) (r : Int) (w : World) (h : portageref1_Crc.f k a0 = some r) :
  Calls Tryd.prog 60 #[.string a0] w fun e w' => e = .returned (.int .i64 r) ∧ Drawn0 w w' := by
 have H : ((portageref1_turn.f k 4294967295 a0).bind fun t130 => (some (wrap64 (Go.bits .xor .u32 4294967295 t130)))) = some r := h
 clear h
 replace H := Option.bind_eq_some_iff.mp H
 obtain ⟨t130, A20, H⟩ := H
 replace H : (some (wrap64 (Go.bits .xor .u32 4294967295 t130))) = some r := H
 have A2 := qas A20
 clear A20
 obtain rfl := Option.some.inj H
 go_enter Tryd.func60, Tryd.ntmps60
 go_wp2_with (first | ((with_reducible refine gate_callee (f := 89) rfl ?_); refine goesL_ (some 4) rfl rfl Tryd.func89 (by kernel_rfl) rfl #[.int .u32 4294967295, .string a0] rfl (by (try simp only [List.map_toArray, List.map_cons, List.map_nil]); first | done | rfl | (simp only [List.length_drop, List.length_take]; rfl)) ?_; (with_reducible refine (portageref1_turn.calls k 4294967295 a0 t130 _ A2.out).mono ?_); rintro e w' ⟨rfl, ⟨nd, rfl⟩⟩; refine ⟨_, rfl, ?_⟩))
 go_ret
 exact ⟨by first | rfl | (simp; done) | (simp [*]; done), by repeat (first | exact Drawn0.refl _ | apply Drawn0.step)⟩

/-! ### portagelaw13_small: function 27 -/
def portagelaw13_small.f (k : Nat) (a0 : ByteArray) (a1 : Int) (a2 : Int) (a3 : ByteArray) : Option (ByteArray × Bool × List Int × Int × Int × Int × ByteArray × Int × Int) := if 4 ≤ 35184372088832 then ((some (List.replicate 4 0 : List Int)).bind fun y132 => (if 0 ≤ a1 then (if a1 < (y132.length : Int) then ((portageref1_Crc.f k a3).bind fun t136 => (some (a0, false, (y132.set (a1 : Int).toNat a2), a2, a1, 0, a3, (a3.size : Int), t136))) else (none)) else (none))) else (none)
theorem portagelaw13_small.mono : ∀ a0 a1 a2 a3 k, LeO (portagelaw13_small.f k a0 a1 a2 a3) (portagelaw13_small.f (k + 1) a0 a1 a2 a3) := by
 intro a0 a1 a2 a3 k
 unfold portagelaw13_small.f
 repeat' first
   | (with_reducible exact portageref1_Crc.mono _ _)
   | (with_reducible exact LeO.refl _)
   | (with_reducible exact LeO.none _)
   | (with_reducible refine LeO.ite ?_ ?_)
   | (with_reducible refine LeO.bind ?_ (fun _ => ?_))
   | exact portageref1_Crc.mono _ _
   | exact LeO.none _
   | refine LeO.ite ?_ ?_
   | refine LeO.bind ?_ (fun _ => ?_)
set_option maxHeartbeats 8000000 in
set_option maxRecDepth 100000 in
theorem portagelaw13_small.calls (k : Nat) (a0 : ByteArray) (a1 : Int) (a2 : Int) (a3 : ByteArray) (r1 : ByteArray) (r2 : Bool) (r3 : List Int) (r4 : Int) (r5 : Int) (r6 : Int) (r7 : ByteArray) (r8 : Int) (r9 : Int) (w : World) (h : portagelaw13_small.f k a0 a1 a2 a3 = some (r1, r2, r3, r4, r5, r6, r7, r8, r9)) :
  Calls Tryd.prog 27 #[.string a0, .int .i64 a1, .int .i64 a2, .string a3] w fun e w' => ∃ v2_ : Value, e = .returned (.agg #[.string r1, .bool r2, v2_, .int .i64 r4, .int .i64 r5, .int .i64 r6, .string r7, .int .i64 r8, .int .i64 r9]) ∧ Kd.R (Kd.int .i64) 3 w' w.heap.size (fun _ => True) v2_ r3 ∧ Below w.heap.size w w' := by
 have hu39 := Tryd.underlying39
 have HB := qas (Below.refl w.heap.size w)
 have H : (if 4 ≤ 35184372088832 then ((some (List.replicate 4 0 : List Int)).bind fun y132 => (if 0 ≤ a1 then (if a1 < (y132.length : Int) then ((portageref1_Crc.f k a3).bind fun t136 => (some (a0, false, (y132.set (a1 : Int).toNat a2), a2, a1, 0, a3, (a3.size : Int), t136))) else (none)) else (none))) else (none)) = some (r1, r2, r3, r4, r5, r6, r7, r8, r9) := h
 clear h
 by_cases c5 : 4 ≤ 35184372088832
 rotate_left
 ·rw [if_neg c5] at H
  exact absurd H (by simp)
 rw [if_pos c5] at H
 have c5b0 := eq_true c5
 have c5b1 : decide (4 ≤ 35184372088832) = true := decide_eq_true c5
 clear c5
 obtain ⟨y132, hy132⟩ : ∃ y_ : List Int, y_ = (List.replicate 4 0) := ⟨_, rfl⟩
 replace H : (if 0 ≤ a1 then (if a1 < (y132.length : Int) then ((portageref1_Crc.f k a3).bind fun t136 => (some (a0, false, (y132.set (a1 : Int).toNat a2), a2, a1, 0, a3, (a3.size : Int), t136))) else (none)) else (none)) = some (r1, r2, r3, r4, r5, r6, r7, r8, r9) := by first | (rw [hy132]; with_reducible exact H) | (have H2_ := (Option.bind_some _ _).symm.trans H; rw [hy132]; with_reducible exact H2_) | (have H2_ := (Option.bind_some _ _).symm.trans H; with_reducible exact H2_) | with_reducible exact H | (rw [hy132]; exact H) | exact H
 have Ny132 := qas hy132
 clear hy132
 by_cases c6 : 0 ≤ a1
 rotate_left
 ·rw [if_neg c6] at H
  exact absurd H (by simp)
 rw [if_pos c6] at H
 have c6b0 : decide (0 ≤ a1) = true := decide_eq_true c6
 clear c6
 by_cases c7 : a1 < (y132.length : Int)
 rotate_left
 ·rw [if_neg c7] at H
  exact absurd H (by simp)
 rw [if_pos c7] at H
 have c7b0 : decide (a1 < (y132.length : Int)) = true := decide_eq_true c7
 clear c7
 obtain ⟨y135, hy135⟩ : ∃ y_ : List Int, y_ = (y132.set (a1 : Int).toNat a2) := ⟨_, rfl⟩
 replace H : ((portageref1_Crc.f k a3).bind fun t136 => (some (a0, false, y135, a2, a1, 0, a3, (a3.size : Int), t136))) = some (r1, r2, r3, r4, r5, r6, r7, r8, r9) := by first | (rw [hy135]; with_reducible exact H) | (have H2_ := (Option.bind_some _ _).symm.trans H; rw [hy135]; with_reducible exact H2_) | (have H2_ := (Option.bind_some _ _).symm.trans H; with_reducible exact H2_) | with_reducible exact H | (rw [hy135]; exact H) | exact H
 have Ny135 := qas hy135
 clear hy135
 replace H := Option.bind_eq_some_iff.mp H
 obtain ⟨t136, A90, H⟩ := H
 replace H : (some (a0, false, y135, a2, a1, 0, a3, (a3.size : Int), t136)) = some (r1, r2, r3, r4, r5, r6, r7, r8, r9) := H
 have A9 := qas A90
 clear A90
 simp only [Option.some.injEq, Prod.mk.injEq] at H
 obtain ⟨rfl, rfl, rfl, rfl, rfl, rfl, rfl, rfl, rfl⟩ := H
 go_enter Tryd.func27, Tryd.ntmps27
 go_wp2_with (first | ((with_reducible refine gate_dst (N := 8) rfl ?_); refine box_event ?hg (N := 8) ?hd (cs := #[.string (⟨#[]⟩ : ByteArray), .bool false, .slice none 0 0, .int .i64 0, .int .i64 0, .int .i64 0, .string (⟨#[]⟩ : ByteArray), .int .i64 0, .int .i64 0]) (t := 39) ?hr ?_; (case hd => rfl); (case hg => rfl); (case hr => first | (go_simp; done) | (go_simp; rfl)); intro gb131 hg w10 hbox hb; have n0_ := qas (below_step (by repeat (first | (with_reducible first | exact HB.out | apply qbA | apply qbB | apply qbC) | exact HB.out)) hb); have n1_ := qas (hbox); have n2_ := qas ((by rw [hg]; exact (below_size (by repeat (first | (with_reducible first | exact HB.out | apply qbA | apply qbB | apply qbC) | exact HB.out))) : w.heap.size ≤ gb131)); have n3_ := qas ((by rw [hg]; exact (below_size (by repeat (first | (with_reducible first | exact HB.out | apply qbA | apply qbB | apply qbC) | exact HB.out))) : w.heap.size ≤ gb131)); clear HB; have HB := n0_; have BK131 := n1_; have GW131 := n2_; have GE131 := n3_; clear n0_ n1_ n2_ n3_; clear hb hbox hg) | ((with_reducible refine gate_dst (N := 10) rfl ?_); refine Kd.R_make (Kd.int .i64) _ 3 rfl (N := 10) rfl 37 _ _ rfl 4 rfl rfl Tryd.underlying37 (.int .i64 0) 8 info3 rfl (by decide) (by omega) 0 (ok := fun _ => True) (okp := fun _ => True) rfl (fun _ hk => hk) trivial (by omega) (by omega) (Below.refl _ _) (Nat.le_refl _) ?_; intro v133 w11 ho12 hb hg_ hnew_; clear hg_ hnew_; (first | rw [← Ny132.out] at ho12 | (simp only [Int.reduceToNat] at ho12; rw [← Ny132.out] at ho12)); have n0_ := qas (Kd.R_lower ho12 (below_size (by repeat (first | (with_reducible first | exact HB.out | apply qbA | apply qbB | apply qbC | refine below_set ?_ GE131.out) | exact HB.out)))); have n1_ := qas (blk_below (g := gb131) (o := .cells #[.string (⟨#[]⟩ : ByteArray), .bool false, .slice none 0 0, .int .i64 0, .int .i64 0, .int .i64 0, .string (⟨#[]⟩ : ByteArray), .int .i64 0, .int .i64 0] 39 (0, 0)) (by (with_reducible repeat (first | refine qkA ?_ _ | refine qkB ?_ | refine qkC ?_ _)); exact BK131.out) hb); have n2_ := qas (below_step (by repeat (first | (with_reducible first | exact HB.out | apply qbA | apply qbB | apply qbC | refine below_set ?_ GE131.out) | exact HB.out)) hb); clear BK131; clear HB; have HO134 := n0_; have BK131 := n1_; have HB := n2_; clear n0_ n1_ n2_; clear hb ho12; have p8 : 0 ≤ (a1 : Int) := qde (by first | (with_reducible assumption) | assumption); have q8 : (a1 : Int) < ((y132.length : Int) : Int) := qde (by first | (with_reducible assumption) | assumption); obtain ⟨go8, co8, eo8, gb8, gl8, cl8, HG8⟩ := Kd.R_form HO134.out (by omega); (first | cases eo8 | (injection eo8 with ea_ en_ ec_; (first | subst ea_ | (injection ea_ with ea_; subst ea_)); subst ec_; clear en_)); have GB8 := qas gb8; have GG8 := qas HG8; clear gb8 gl8 HG8; obtain ⟨hx8_0, hf8_0⟩ := Kd.R_celln 0 HO134.out (a1 : Int) p8 q8; replace p8 := eq_true p8; replace q8 := eq_true q8; obtain ⟨hy13_, hz13_⟩ := Kd.R_celln 0 HO134.out (a1 : Int) (qde (by first | (with_reducible assumption) | assumption)) (qde (by first | (with_reducible assumption) | assumption)); have HP13 := Kd.R_putg HO134.out (a1 : Int) a2) | ((with_reducible refine gate_store (t := 3) (p := 14) rfl ?_); refine store_event (t := 3) (p := 14) (v := ?vo_w14) (w1 := (w11.setCell ⟨go8, (a1 : Int).toNat, none⟩ (.int .i64 a2))) ?hg ?ho ?hn ?hr ?_; (case ho => rfl); (case hg => rfl); (case hn => rfl); (case hr => first | (go_simp; done) | (go_simp; rfl)); intro w14 hw; have hg : w11.grownBy w14 (some go8) := (by rw [hw]; exact HP13.2); have hp_ : Kd.R (Kd.int .i64) 3 w14 w.heap.size (fun _ => True) (.slice (some ⟨go8, 0, none⟩) y132.length co8) y135 := (by rw [hw, Ny135.out]; exact HP13.1); clear HP13; have n0_ := qas (blk_grown (g := gb131) (o := .cells #[.string (⟨#[]⟩ : ByteArray), .bool false, .slice none 0 0, .int .i64 0, .int .i64 0, .int .i64 0, .string (⟨#[]⟩ : ByteArray), .int .i64 0, .int .i64 0] 39 (0, 0)) (by (with_reducible repeat (first | refine qkA ?_ _ | refine qkB ?_ | refine qkC ?_ _)); exact BK131.out) hg (Kd.R_ne HO134.out BK131.out (by decide))); have n1_ := qas (hp_); have n2_ := qas ((by rw [hw]; exact below_set (HB.out) GB8.out : Below w.heap.size w w14)); clear BK131; clear HO134; clear HB; have BK131 := n0_; have HO134 := n1_; have HB := n2_; clear n0_ n1_ n2_; clear hg hw hp_) | ((with_reducible refine gate_callee (f := 60) rfl ?_); refine goesL_ (some 23) rfl rfl Tryd.func60 (by kernel_rfl) rfl #[.string a3] rfl (by (try simp only [List.map_toArray, List.map_cons, List.map_nil]); first | done | rfl | (simp only [List.length_drop, List.length_take]; rfl)) ?_; (with_reducible refine (portageref1_Crc.calls k a3 t136 _ A9.out).mono ?_); rintro e w' ⟨rfl, ⟨nd, rfl⟩⟩; refine ⟨_, rfl, ?_⟩; (try (rw [drewN_self w14]; generalize hq_ : World.drewN w14 _ = w14; have n0_ : Aside0 (Kd.R (Kd.int .i64) 3 w14 w.heap.size (fun _ => True) (.slice (some ⟨go8, 0, none⟩) y132.length co8) y135) := ⟨by rw [← hq_]; exact (by (with_reducible repeat (first | apply Kd.R_alloc | apply Kd.R_drewN | apply Kd.R_drew)); exact HO134.out)⟩; have n1_ : Aside0 (w14.heap[gb131]? = some (.cells #[.string (⟨#[]⟩ : ByteArray), .bool false, .slice none 0 0, .int .i64 0, .int .i64 0, .int .i64 0, .string (⟨#[]⟩ : ByteArray), .int .i64 0, .int .i64 0] 39 (0, 0))) := ⟨by rw [← hq_]; exact (by (with_reducible repeat (first | refine qkA ?_ _ | refine qkB ?_ | refine qkC ?_ _)); exact BK131.out)⟩; have n2_ : Aside0 (Below w.heap.size w w14) := ⟨by rw [← hq_]; exact (by repeat (first | (with_reducible first | exact HB.out | apply qbA | apply qbB | apply qbC | refine below_set ?_ GE131.out) | exact HB.out))⟩; clear HO134 BK131 HB hq_; have HO134 := n0_; have BK131 := n1_; have HB := n2_; clear n0_ n1_ n2_)); have hcz15_0 : w14.cell? ⟨gb131, 0, none⟩ = some (.string (⟨#[]⟩ : ByteArray)) := (blk_cell BK131.out 0).trans rfl; have hcz15_1 : w14.cell? ⟨gb131, 1, none⟩ = some (.bool false) := (blk_cell BK131.out 1).trans rfl; have hcz15_2 : w14.cell? ⟨gb131, 2, none⟩ = some (.slice none 0 0) := (blk_cell BK131.out 2).trans rfl; have hcz15_3 : w14.cell? ⟨gb131, 3, none⟩ = some (.int .i64 0) := (blk_cell BK131.out 3).trans rfl; have hcz15_4 : w14.cell? ⟨gb131, 4, none⟩ = some (.int .i64 0) := (blk_cell BK131.out 4).trans rfl; have hcz15_5 : w14.cell? ⟨gb131, 5, none⟩ = some (.int .i64 0) := (blk_cell BK131.out 5).trans rfl; have hcz15_6 : w14.cell? ⟨gb131, 6, none⟩ = some (.string (⟨#[]⟩ : ByteArray)) := (blk_cell BK131.out 6).trans rfl; have hcz15_7 : w14.cell? ⟨gb131, 7, none⟩ = some (.int .i64 0) := (blk_cell BK131.out 7).trans rfl; have hcz15_8 : w14.cell? ⟨gb131, 8, none⟩ = some (.int .i64 0) := (blk_cell BK131.out 8).trans rfl; have hfz15_0 := blk_frozen BK131.out 0; have hfz15_1 := blk_frozen BK131.out 1; have hfz15_2 := blk_frozen BK131.out 2; have hfz15_3 := blk_frozen BK131.out 3; have hfz15_4 := blk_frozen BK131.out 4; have hfz15_5 := blk_frozen BK131.out 5; have hfz15_6 := blk_frozen BK131.out 6; have hfz15_7 := blk_frozen BK131.out 7; have hfz15_8 := blk_frozen BK131.out 8))
 refine bodyPost_ret (results_cell_row rfl _ _ gb131 39 #[.string a0, .bool false, .slice (some ⟨go8, 0, none⟩) y132.length co8, .int .i64 a2, .int .i64 a1, .int .i64 0, .string a3, .int .i64 (a3.size : Int), .int .i64 t136] (0, 0) _ rfl (by (with_reducible repeat (first | refine qkA ?_ _ | refine qkB ?_ | refine qkC ?_ _)); refine blk_put (cs := #[.string a0, .bool false, .slice (some ⟨go8, 0, none⟩) y132.length co8, .int .i64 a2, .int .i64 a1, .int .i64 0, .string a3, .int .i64 (a3.size : Int), .int .i64 0]) ?_ 8 _ rfl; (with_reducible repeat (first | refine qkA ?_ _ | refine qkB ?_ | refine qkC ?_ _)); refine blk_put (cs := #[.string a0, .bool false, .slice (some ⟨go8, 0, none⟩) y132.length co8, .int .i64 a2, .int .i64 a1, .int .i64 0, .string a3, .int .i64 0, .int .i64 0]) ?_ 7 _ rfl; (with_reducible repeat (first | refine qkA ?_ _ | refine qkB ?_ | refine qkC ?_ _)); refine blk_put (cs := #[.string a0, .bool false, .slice (some ⟨go8, 0, none⟩) y132.length co8, .int .i64 a2, .int .i64 a1, .int .i64 0, .string (⟨#[]⟩ : ByteArray), .int .i64 0, .int .i64 0]) ?_ 6 _ rfl; (with_reducible repeat (first | refine qkA ?_ _ | refine qkB ?_ | refine qkC ?_ _)); refine blk_put (cs := #[.string a0, .bool false, .slice (some ⟨go8, 0, none⟩) y132.length co8, .int .i64 a2, .int .i64 a1, .int .i64 0, .string (⟨#[]⟩ : ByteArray), .int .i64 0, .int .i64 0]) ?_ 5 _ rfl; (with_reducible repeat (first | refine qkA ?_ _ | refine qkB ?_ | refine qkC ?_ _)); refine blk_put (cs := #[.string a0, .bool false, .slice (some ⟨go8, 0, none⟩) y132.length co8, .int .i64 a2, .int .i64 0, .int .i64 0, .string (⟨#[]⟩ : ByteArray), .int .i64 0, .int .i64 0]) ?_ 4 _ rfl; (with_reducible repeat (first | refine qkA ?_ _ | refine qkB ?_ | refine qkC ?_ _)); refine blk_put (cs := #[.string a0, .bool false, .slice (some ⟨go8, 0, none⟩) y132.length co8, .int .i64 0, .int .i64 0, .int .i64 0, .string (⟨#[]⟩ : ByteArray), .int .i64 0, .int .i64 0]) ?_ 3 _ rfl; (with_reducible repeat (first | refine qkA ?_ _ | refine qkB ?_ | refine qkC ?_ _)); refine blk_put (cs := #[.string a0, .bool false, .slice none 0 0, .int .i64 0, .int .i64 0, .int .i64 0, .string (⟨#[]⟩ : ByteArray), .int .i64 0, .int .i64 0]) ?_ 2 _ rfl; (with_reducible repeat (first | refine qkA ?_ _ | refine qkB ?_ | refine qkC ?_ _)); refine blk_put (cs := #[.string a0, .bool false, .slice none 0 0, .int .i64 0, .int .i64 0, .int .i64 0, .string (⟨#[]⟩ : ByteArray), .int .i64 0, .int .i64 0]) ?_ 1 _ rfl; (with_reducible repeat (first | refine qkA ?_ _ | refine qkB ?_ | refine qkC ?_ _)); refine blk_put (cs := #[.string (⟨#[]⟩ : ByteArray), .bool false, .slice none 0 0, .int .i64 0, .int .i64 0, .int .i64 0, .string (⟨#[]⟩ : ByteArray), .int .i64 0, .int .i64 0]) ?_ 0 _ rfl; (with_reducible repeat (first | refine qkA ?_ _ | refine qkB ?_ | refine qkC ?_ _)); exact BK131.out) Tryd.underlying39 rfl (by kernel_rfl)) rfl ?_
 exact ⟨_, by first | rfl | (simp [errW_none, errW_some] <;> rfl) | (simp [*, errW_none, errW_some] <;> rfl), by (with_reducible repeat (first | apply Kd.R_alloc | apply Kd.R_drewN | apply Kd.R_drew)); exact Kd.R_mono (Kd.R_far (p := ⟨gb131, 8, none⟩) (Kd.R_far (p := ⟨gb131, 7, none⟩) (Kd.R_far (p := ⟨gb131, 6, none⟩) (Kd.R_far (p := ⟨gb131, 5, none⟩) (Kd.R_far (p := ⟨gb131, 4, none⟩) (Kd.R_far (p := ⟨gb131, 3, none⟩) (Kd.R_far (p := ⟨gb131, 2, none⟩) (Kd.R_far (p := ⟨gb131, 1, none⟩) (Kd.R_far (p := ⟨gb131, 0, none⟩) (Kd.R_types HO134.out BK131.out (by decide)) (fun _ hk => hk.2) (.string a0)) (fun _ hk => hk.2) (.bool false)) (fun _ hk => hk.2) (.slice (some ⟨go8, 0, none⟩) y132.length co8)) (fun _ hk => hk.2) (.int .i64 a2)) (fun _ hk => hk.2) (.int .i64 a1)) (fun _ hk => hk.2) (.int .i64 0)) (fun _ hk => hk.2) (.string a3)) (fun _ hk => hk.2) (.int .i64 (a3.size : Int))) (fun _ hk => hk.2) (.int .i64 t136)) (fun _ hk => trivial), by repeat (first | (with_reducible first | exact HB.out | apply qbA | apply qbB | apply qbC | refine below_set ?_ GE131.out) | exact HB.out)⟩

end Go.Proofs.YtneogampbohfnaaDoor.ZP
